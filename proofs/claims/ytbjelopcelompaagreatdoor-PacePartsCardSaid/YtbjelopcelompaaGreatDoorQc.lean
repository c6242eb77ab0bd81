/- Windows of picks: of the program, and of the reference. -/
import Derived.Test.YtbjelopcelompaaGreatDoorKz
import Derived.Test.YtbjelopcelompaaGreatDoorId
import Derived.Test.YtbjelopcelompaaGreatDoorQa
namespace Go.Proofs.YtbjelopcelompaaGreatDoor.Gst
open Go Go.RowKit
set_option linter.unusedSimpArgs false
set_option linter.unusedVariables false
set_option maxHeartbeats 1000000

/-- Any number as one from 0 to n - 1. -/
def modI (v n : Int) : Int := (v % 18446744073709551616) % n
theorem modI_lt {v n : Int} (h : 0 < n) : 0 ≤ modI v n ∧ modI v n < n := ⟨Int.emod_nonneg _ (by omega), Int.emod_lt_of_pos _ h⟩
theorem play_mod (v n : Int) (h0 : 0 < n) (h1 : n < 9223372036854775808) : Sp n_play_Mod [vi v, vi n] emp (fun _ : Unit => vi (modI v n)) (fun _ => emp) := by
  refine sp_of fun R H h => ?_
  refine wp_of (fun r => play_Mod_of _ _ H) ?_
  have e1 : pConv (some .u64) (vi v) = some (vu (v % 18446744073709551616).toNat) := by
    simp only [pConv]
    rw [wrap_u]
    have : 0 ≤ v % 18446744073709551616 := Int.emod_nonneg _ (by omega)
    show _ = some (Value.int .u64 (((v % 18446744073709551616).toNat : Nat) : Int))
    rw [Int.toNat_of_nonneg this]
  refine w_bind (e1) ?_
  refine w_bind (conv_ui (by omega) (by omega)) ?_
  refine w_bind (bin_rem_u (by omega)) ?_
  have hm := modI_lt (v := v) h0
  have e2 : (((v % 18446744073709551616).toNat % n.toNat : Nat) : Int) = modI v n := by
    have : 0 ≤ v % 18446744073709551616 := Int.emod_nonneg _ (by omega)
    unfold modI
    rw [Int.natCast_emod, Int.toNat_of_nonneg this, Int.toNat_of_nonneg (by omega)]
  refine w_bind (conv_iu (by omega)) ?_
  rw [e2]
  exact w_ret ⟨(), rfl, Holds.to (by assumption)⟩

/-! ### A window -/
def winP (w mb n : Nat) (m : List Int) : SP := blk w (.cells false [vs mb n 1]) * ts 1 encI (vs mb n 1) m
theorem win_turn (w mb n : Nat) (m : List Int) (who by' : Int) (hm : m.length = n) (hb : ∀ x ∈ m, -1152921504606846976 ≤ x + by' ∧ x + by' ≤ 1152921504606846976) :
    Sp n_pace_window_turn [vp w, vi who, vi by'] (winP w mb n m) (fun _ : Unit => .tuple #[]) (fun _ => winP w mb n (bump m who by')) := by
  refine sp_of fun R H h => ?_
  refine wp_of (fun r => pace_window_turn_of _ _ _ H) ?_
  unfold winP at h ⊢
  subst hm
  refine w_bind (bin_geq) ?_
  by_cases h0 : 0 ≤ who
  · rw [decide_eq_true h0]
    repeat (first
      | with_reducible refine w_bind (pick_t _ _) ?_
      | with_reducible refine w_bind (pick_f _ _) ?_
      | with_reducible refine w_bind gV_tt ?_
      | with_reducible refine w_bind gV_ff ?_
      | with_reducible refine w_bind gV_tf ?_
      | with_reducible refine w_bind gV_ft ?_
      | with_reducible refine w_bind gB_tf ?_
      | with_reducible refine w_bind gB_ft ?_
      | with_reducible refine w_gE_tf ?_
      | with_reducible refine w_gE_ft ?_
      | with_reducible refine w_gE_tt ?_
      | with_reducible refine w_gE_ff ?_
      | with_reducible refine w_onK_tf ?_
      | with_reducible refine w_onK_ft ?_
      | with_reducible refine w_onK_tt ?_
      | with_reducible refine w_onK_ff ?_
      | with_reducible refine w_gld_tt ?_
      | with_reducible refine w_gld_ff ?_
      | with_reducible refine w_gld_tf ?_
      | with_reducible refine w_gld_ft ?_
      | with_reducible refine w_gldN_tt ?_
      | with_reducible refine w_gldN_ff ?_
      | with_reducible refine w_gldN_tf ?_
      | with_reducible refine w_gldN_ft ?_
      | with_reducible refine w_gB_tt ?_
      | with_reducible refine w_gB_ff ?_
      | with_reducible refine w_bind un_not ?_
      | with_reducible refine w_cond_t ?_
      | with_reducible refine w_cond_f ?_
      | with_reducible refine w_bind gV_u ?_
      | with_reducible refine w_bind gB_u ?_
      | with_reducible refine w_gld_u ?_)
    refine w_ld h end_nf rfl ?_
    repeat (first
      | with_reducible refine w_bind (pick_t _ _) ?_
      | with_reducible refine w_bind (pick_f _ _) ?_
      | with_reducible refine w_bind gV_tt ?_
      | with_reducible refine w_bind gV_ff ?_
      | with_reducible refine w_bind gV_tf ?_
      | with_reducible refine w_bind gV_ft ?_
      | with_reducible refine w_bind gB_tf ?_
      | with_reducible refine w_bind gB_ft ?_
      | with_reducible refine w_gE_tf ?_
      | with_reducible refine w_gE_ft ?_
      | with_reducible refine w_gE_tt ?_
      | with_reducible refine w_gE_ff ?_
      | with_reducible refine w_onK_tf ?_
      | with_reducible refine w_onK_ft ?_
      | with_reducible refine w_onK_tt ?_
      | with_reducible refine w_onK_ff ?_
      | with_reducible refine w_gld_tt ?_
      | with_reducible refine w_gld_ff ?_
      | with_reducible refine w_gld_tf ?_
      | with_reducible refine w_gld_ft ?_
      | with_reducible refine w_gldN_tt ?_
      | with_reducible refine w_gldN_ff ?_
      | with_reducible refine w_gldN_tf ?_
      | with_reducible refine w_gldN_ft ?_
      | with_reducible refine w_gB_tt ?_
      | with_reducible refine w_gB_ff ?_
      | with_reducible refine w_bind un_not ?_
      | with_reducible refine w_cond_t ?_
      | with_reducible refine w_cond_f ?_
      | with_reducible refine w_bind gV_u ?_
      | with_reducible refine w_bind gB_u ?_
      | with_reducible refine w_gld_u ?_)
    refine w_rlenB h ?_
    repeat (first
      | with_reducible refine w_bind (pick_t _ _) ?_
      | with_reducible refine w_bind (pick_f _ _) ?_
      | with_reducible refine w_bind gV_tt ?_
      | with_reducible refine w_bind gV_ff ?_
      | with_reducible refine w_bind gV_tf ?_
      | with_reducible refine w_bind gV_ft ?_
      | with_reducible refine w_bind gB_tf ?_
      | with_reducible refine w_bind gB_ft ?_
      | with_reducible refine w_gE_tf ?_
      | with_reducible refine w_gE_ft ?_
      | with_reducible refine w_gE_tt ?_
      | with_reducible refine w_gE_ff ?_
      | with_reducible refine w_onK_tf ?_
      | with_reducible refine w_onK_ft ?_
      | with_reducible refine w_onK_tt ?_
      | with_reducible refine w_onK_ff ?_
      | with_reducible refine w_gld_tt ?_
      | with_reducible refine w_gld_ff ?_
      | with_reducible refine w_gld_tf ?_
      | with_reducible refine w_gld_ft ?_
      | with_reducible refine w_gldN_tt ?_
      | with_reducible refine w_gldN_ff ?_
      | with_reducible refine w_gldN_tf ?_
      | with_reducible refine w_gldN_ft ?_
      | with_reducible refine w_gB_tt ?_
      | with_reducible refine w_gB_ff ?_
      | with_reducible refine w_bind un_not ?_
      | with_reducible refine w_cond_t ?_
      | with_reducible refine w_cond_f ?_
      | with_reducible refine w_bind gV_u ?_
      | with_reducible refine w_bind gB_u ?_
      | with_reducible refine w_gld_u ?_)
    refine w_bind (bin_lss) ?_
    by_cases h1 : who < m.length
    · rw [decide_eq_true h1]
      repeat (first
        | with_reducible refine w_bind (pick_t _ _) ?_
        | with_reducible refine w_bind (pick_f _ _) ?_
        | with_reducible refine w_bind gV_tt ?_
        | with_reducible refine w_bind gV_ff ?_
        | with_reducible refine w_bind gV_tf ?_
        | with_reducible refine w_bind gV_ft ?_
        | with_reducible refine w_bind gB_tf ?_
        | with_reducible refine w_bind gB_ft ?_
        | with_reducible refine w_gE_tf ?_
        | with_reducible refine w_gE_ft ?_
        | with_reducible refine w_gE_tt ?_
        | with_reducible refine w_gE_ff ?_
        | with_reducible refine w_onK_tf ?_
        | with_reducible refine w_onK_ft ?_
        | with_reducible refine w_onK_tt ?_
        | with_reducible refine w_onK_ff ?_
        | with_reducible refine w_gld_tt ?_
        | with_reducible refine w_gld_ff ?_
        | with_reducible refine w_gld_tf ?_
        | with_reducible refine w_gld_ft ?_
        | with_reducible refine w_gldN_tt ?_
        | with_reducible refine w_gldN_ff ?_
        | with_reducible refine w_gldN_tf ?_
        | with_reducible refine w_gldN_ft ?_
        | with_reducible refine w_gB_tt ?_
        | with_reducible refine w_gB_ff ?_
        | with_reducible refine w_bind un_not ?_
        | with_reducible refine w_cond_t ?_
        | with_reducible refine w_cond_f ?_
        | with_reducible refine w_bind gV_u ?_
        | with_reducible refine w_bind gB_u ?_
        | with_reducible refine w_gld_u ?_)
      refine w_ld h end_nf rfl ?_
      obtain ⟨i, rfl⟩ : ∃ i : Nat, who = i := ⟨who.toNat, by omega⟩
      have hi : i < m.length := by omega
      refine w_rld1 h hi rfl ?_
      have := hb m[i] (List.getElem_mem hi)
      refine w_bind (bin_add_i (by omega) (by omega)) ?_
      refine w_tst (m[i] + by') h hi (.inl ⟨rfl, rfl⟩) rfl (by omega) rfl rfl fun _ _ => ?_
      have e : bump m (i : Int) by' = m.set i (m[i] + by') := by
        unfold bump
        rw [if_pos ⟨h0, h1⟩]
        simp [List.getD, hi]
      rw [e]
      exact w_ret ⟨(), rfl, Holds.to (by assumption)⟩
    · rw [decide_eq_false h1]
      repeat (first
        | with_reducible refine w_bind (pick_t _ _) ?_
        | with_reducible refine w_bind (pick_f _ _) ?_
        | with_reducible refine w_bind gV_tt ?_
        | with_reducible refine w_bind gV_ff ?_
        | with_reducible refine w_bind gV_tf ?_
        | with_reducible refine w_bind gV_ft ?_
        | with_reducible refine w_bind gB_tf ?_
        | with_reducible refine w_bind gB_ft ?_
        | with_reducible refine w_gE_tf ?_
        | with_reducible refine w_gE_ft ?_
        | with_reducible refine w_gE_tt ?_
        | with_reducible refine w_gE_ff ?_
        | with_reducible refine w_onK_tf ?_
        | with_reducible refine w_onK_ft ?_
        | with_reducible refine w_onK_tt ?_
        | with_reducible refine w_onK_ff ?_
        | with_reducible refine w_gld_tt ?_
        | with_reducible refine w_gld_ff ?_
        | with_reducible refine w_gld_tf ?_
        | with_reducible refine w_gld_ft ?_
        | with_reducible refine w_gldN_tt ?_
        | with_reducible refine w_gldN_ff ?_
        | with_reducible refine w_gldN_tf ?_
        | with_reducible refine w_gldN_ft ?_
        | with_reducible refine w_gB_tt ?_
        | with_reducible refine w_gB_ff ?_
        | with_reducible refine w_bind un_not ?_
        | with_reducible refine w_cond_t ?_
        | with_reducible refine w_cond_f ?_
        | with_reducible refine w_bind gV_u ?_
        | with_reducible refine w_bind gB_u ?_
        | with_reducible refine w_gld_u ?_)
      have e : bump m who by' = m := by unfold bump; rw [if_neg (by omega)]
      rw [e]
      exact w_ret ⟨(), rfl, Holds.to (by assumption)⟩
  · rw [decide_eq_false h0]
    repeat (first
      | with_reducible refine w_bind (pick_t _ _) ?_
      | with_reducible refine w_bind (pick_f _ _) ?_
      | with_reducible refine w_bind gV_tt ?_
      | with_reducible refine w_bind gV_ff ?_
      | with_reducible refine w_bind gV_tf ?_
      | with_reducible refine w_bind gV_ft ?_
      | with_reducible refine w_bind gB_tf ?_
      | with_reducible refine w_bind gB_ft ?_
      | with_reducible refine w_gE_tf ?_
      | with_reducible refine w_gE_ft ?_
      | with_reducible refine w_gE_tt ?_
      | with_reducible refine w_gE_ff ?_
      | with_reducible refine w_onK_tf ?_
      | with_reducible refine w_onK_ft ?_
      | with_reducible refine w_onK_tt ?_
      | with_reducible refine w_onK_ff ?_
      | with_reducible refine w_gld_tt ?_
      | with_reducible refine w_gld_ff ?_
      | with_reducible refine w_gld_tf ?_
      | with_reducible refine w_gld_ft ?_
      | with_reducible refine w_gldN_tt ?_
      | with_reducible refine w_gldN_ff ?_
      | with_reducible refine w_gldN_tf ?_
      | with_reducible refine w_gldN_ft ?_
      | with_reducible refine w_gB_tt ?_
      | with_reducible refine w_gB_ff ?_
      | with_reducible refine w_bind un_not ?_
      | with_reducible refine w_cond_t ?_
      | with_reducible refine w_cond_f ?_
      | with_reducible refine w_bind gV_u ?_
      | with_reducible refine w_bind gB_u ?_
      | with_reducible refine w_gld_u ?_)
    have e : bump m who by' = m := by unfold bump; rw [if_neg (by omega)]
    rw [e]
    exact w_ret ⟨(), rfl, Holds.to (by assumption)⟩
/-- Where a number stands first; -1: nowhere. -/
def idxI (l : List Int) (x : Int) : Int := if x ∈ l then (l.idxOf x : Int) else -1
theorem slices_index {P : SP} {s : Value} {l : List Int} (x : Int) [r : Rd P s 1 encI l] (hl : l.length < 4611686018427387904) : Sp n_slices_Indexintint [s, vi x] P (fun i : Int => vi i) (fun i => pu (0 ≤ i ↔ x ∈ l) * P) := by
  refine sp_of fun R H h => ?_
  refine wp_of (fun r => slices_Indexintint_of _ _ H) ?_
  refine wp_eq (slices_Indexintint_k0_eq _ _ _ H) ?_
  refine w_rlen h ?_
  refine wp_eq (slices_Indexintint_k2_eq _ _ _ _ _ H) ?_
  have loop : ∀ (n k : Nat), k + n = l.length → (∀ j, j < k → ∀ y, l[j]? = some y → y ≠ x) → wp (slices_Indexintint_k4 s (vi x) (vi 0) (vi l.length) (vi k) H) fun v' H' => ∃ i : Int, v' = vi i ∧ Holds (pu (0 ≤ i ↔ x ∈ l) * P * R) H' := by
    intro n
    induction n with
    | zero =>
      intro k hk hno
      refine wp_eq (slices_Indexintint_k4_eq _ _ _ _ _ H) ?_
      refine w_bind (lss_f (by omega)) ?_
      repeat (first
        | with_reducible refine w_bind (pick_t _ _) ?_
        | with_reducible refine w_bind (pick_f _ _) ?_
        | with_reducible refine w_bind gV_tt ?_
        | with_reducible refine w_bind gV_ff ?_
        | with_reducible refine w_bind gV_tf ?_
        | with_reducible refine w_bind gV_ft ?_
        | with_reducible refine w_bind gB_tf ?_
        | with_reducible refine w_bind gB_ft ?_
        | with_reducible refine w_gE_tf ?_
        | with_reducible refine w_gE_ft ?_
        | with_reducible refine w_gE_tt ?_
        | with_reducible refine w_gE_ff ?_
        | with_reducible refine w_onK_tf ?_
        | with_reducible refine w_onK_ft ?_
        | with_reducible refine w_onK_tt ?_
        | with_reducible refine w_onK_ff ?_
        | with_reducible refine w_gld_tt ?_
        | with_reducible refine w_gld_ff ?_
        | with_reducible refine w_gld_tf ?_
        | with_reducible refine w_gld_ft ?_
        | with_reducible refine w_gldN_tt ?_
        | with_reducible refine w_gldN_ff ?_
        | with_reducible refine w_gldN_tf ?_
        | with_reducible refine w_gldN_ft ?_
        | with_reducible refine w_gB_tt ?_
        | with_reducible refine w_gB_ff ?_
        | with_reducible refine w_bind un_not ?_
        | with_reducible refine w_cond_t ?_
        | with_reducible refine w_cond_f ?_
        | with_reducible refine w_bind gV_u ?_
        | with_reducible refine w_bind gB_u ?_
        | with_reducible refine w_gld_u ?_)
      refine wp_eq (slices_Indexintint_e3_0_eq _ H) ?_
      refine wp_eq (slices_Indexintint_k1_eq _ H) ?_
      refine w_ret ⟨-1, rfl, ?_⟩
      rw [sep_assoc]
      refine Holds.pu.2 ⟨⟨fun h => by omega, fun hx => ?_⟩, h⟩
      obtain ⟨j, hj, e⟩ := List.mem_iff_getElem.1 hx
      exact absurd e (hno j (by omega) _ (List.getElem?_eq_getElem hj))
    | succ n ih =>
      intro k hk hno
      have hkl : k < l.length := by omega
      refine wp_eq (slices_Indexintint_k4_eq _ _ _ _ _ H) ?_
      refine w_bind (lss_t (by omega)) ?_
      repeat (first
        | with_reducible refine w_bind (pick_t _ _) ?_
        | with_reducible refine w_bind (pick_f _ _) ?_
        | with_reducible refine w_bind gV_tt ?_
        | with_reducible refine w_bind gV_ff ?_
        | with_reducible refine w_bind gV_tf ?_
        | with_reducible refine w_bind gV_ft ?_
        | with_reducible refine w_bind gB_tf ?_
        | with_reducible refine w_bind gB_ft ?_
        | with_reducible refine w_gE_tf ?_
        | with_reducible refine w_gE_ft ?_
        | with_reducible refine w_gE_tt ?_
        | with_reducible refine w_gE_ff ?_
        | with_reducible refine w_onK_tf ?_
        | with_reducible refine w_onK_ft ?_
        | with_reducible refine w_onK_tt ?_
        | with_reducible refine w_onK_ff ?_
        | with_reducible refine w_gld_tt ?_
        | with_reducible refine w_gld_ff ?_
        | with_reducible refine w_gld_tf ?_
        | with_reducible refine w_gld_ft ?_
        | with_reducible refine w_gldN_tt ?_
        | with_reducible refine w_gldN_ff ?_
        | with_reducible refine w_gldN_tf ?_
        | with_reducible refine w_gldN_ft ?_
        | with_reducible refine w_gB_tt ?_
        | with_reducible refine w_gB_ff ?_
        | with_reducible refine w_bind un_not ?_
        | with_reducible refine w_cond_t ?_
        | with_reducible refine w_cond_f ?_
        | with_reducible refine w_bind gV_u ?_
        | with_reducible refine w_bind gB_u ?_
        | with_reducible refine w_gld_u ?_)
      refine wp_eq (slices_Indexintint_k5_eq _ _ _ _ _ H) ?_
      refine w_rld1 h hkl rfl ?_
      by_cases he : x = l[k]
      · refine w_bind (eql_t he) ?_
        repeat (first
          | with_reducible refine w_bind (pick_t _ _) ?_
          | with_reducible refine w_bind (pick_f _ _) ?_
          | with_reducible refine w_bind gV_tt ?_
          | with_reducible refine w_bind gV_ff ?_
          | with_reducible refine w_bind gV_tf ?_
          | with_reducible refine w_bind gV_ft ?_
          | with_reducible refine w_bind gB_tf ?_
          | with_reducible refine w_bind gB_ft ?_
          | with_reducible refine w_gE_tf ?_
          | with_reducible refine w_gE_ft ?_
          | with_reducible refine w_gE_tt ?_
          | with_reducible refine w_gE_ff ?_
          | with_reducible refine w_onK_tf ?_
          | with_reducible refine w_onK_ft ?_
          | with_reducible refine w_onK_tt ?_
          | with_reducible refine w_onK_ff ?_
          | with_reducible refine w_gld_tt ?_
          | with_reducible refine w_gld_ff ?_
          | with_reducible refine w_gld_tf ?_
          | with_reducible refine w_gld_ft ?_
          | with_reducible refine w_gldN_tt ?_
          | with_reducible refine w_gldN_ff ?_
          | with_reducible refine w_gldN_tf ?_
          | with_reducible refine w_gldN_ft ?_
          | with_reducible refine w_gB_tt ?_
          | with_reducible refine w_gB_ff ?_
          | with_reducible refine w_bind un_not ?_
          | with_reducible refine w_cond_t ?_
          | with_reducible refine w_cond_f ?_
          | with_reducible refine w_bind gV_u ?_
          | with_reducible refine w_bind gB_u ?_
          | with_reducible refine w_gld_u ?_)
        refine w_ret ⟨k, rfl, ?_⟩
        rw [sep_assoc]
        exact Holds.pu.2 ⟨⟨fun _ => by rw [he]; exact List.getElem_mem hkl, fun _ => by omega⟩, h⟩
      · refine w_bind (eql_f he) ?_
        repeat (first
          | with_reducible refine w_bind (pick_t _ _) ?_
          | with_reducible refine w_bind (pick_f _ _) ?_
          | with_reducible refine w_bind gV_tt ?_
          | with_reducible refine w_bind gV_ff ?_
          | with_reducible refine w_bind gV_tf ?_
          | with_reducible refine w_bind gV_ft ?_
          | with_reducible refine w_bind gB_tf ?_
          | with_reducible refine w_bind gB_ft ?_
          | with_reducible refine w_gE_tf ?_
          | with_reducible refine w_gE_ft ?_
          | with_reducible refine w_gE_tt ?_
          | with_reducible refine w_gE_ff ?_
          | with_reducible refine w_onK_tf ?_
          | with_reducible refine w_onK_ft ?_
          | with_reducible refine w_onK_tt ?_
          | with_reducible refine w_onK_ff ?_
          | with_reducible refine w_gld_tt ?_
          | with_reducible refine w_gld_ff ?_
          | with_reducible refine w_gld_tf ?_
          | with_reducible refine w_gld_ft ?_
          | with_reducible refine w_gldN_tt ?_
          | with_reducible refine w_gldN_ff ?_
          | with_reducible refine w_gldN_tf ?_
          | with_reducible refine w_gldN_ft ?_
          | with_reducible refine w_gB_tt ?_
          | with_reducible refine w_gB_ff ?_
          | with_reducible refine w_bind un_not ?_
          | with_reducible refine w_cond_t ?_
          | with_reducible refine w_cond_f ?_
          | with_reducible refine w_bind gV_u ?_
          | with_reducible refine w_bind gB_u ?_
          | with_reducible refine w_gld_u ?_)
        refine wp_eq (slices_Indexintint_k6_eq _ _ _ _ _ H) ?_
        refine w_bind (bin_add_i (by omega) (by omega)) ?_
        refine ih (k + 1) (by omega) (fun j hj y hy => ?_)
        by_cases hjk : j < k
        · exact hno j hjk y hy
        · have : j = k := by omega
          subst this
          rw [List.getElem?_eq_getElem hkl] at hy
          exact fun e => he (by rw [← e]; exact (Option.some.inj hy).symm)
  exact loop l.length 0 (by omega) (fun j hj => by omega)
theorem slices_contains {P : SP} {s : Value} {l : List Int} (x : Int) [r : Rd P s 1 encI l] (hl : l.length < 4611686018427387904) : Sp n_slices_Containsintint [s, vi x] P (fun _ : Unit => vb (l.contains x)) (fun _ => P) := by
  refine sp_of fun R H h => ?_
  refine wp_of (fun r => slices_Containsintint_of _ _ H) ?_
  obtain ⟨i, H', e, h'⟩ := slices_index (P := P) (s := s) x hl R H h
  rw [e]
  rw [sep_assoc, Holds.pu] at h'
  show wp ((pBin .other .geq (vi i) (vi 0)).bind fun v1 => some (v1, H')) _
  refine w_bind (v := vb (l.contains x)) ?_ ?_
  · rw [bin_geq]
    congr 2
    rw [Bool.eq_iff_iff, List.contains_iff_mem]
    simpa using h'.1
  · exact w_ret ⟨(), rfl, h'.2⟩
theorem win_full (w mb n : Nat) (m : List Int) (hm : m.length < 4611686018427387904) : Sp n_pace_window_full [vp w] (winP w mb n m) (fun _ : Unit => vb (fullB m)) (fun _ => winP w mb n m) := by
  refine sp_of fun R H h => ?_
  refine wp_of (fun r => pace_window_full_of _ H) ?_
  unfold winP at h ⊢
  refine w_ld h end_nf rfl ?_
  refine w_ro (by assumption) (slices_contains 0 hm) fun _ _ => ?_
  repeat (first
    | with_reducible refine w_bind (pick_t _ _) ?_
    | with_reducible refine w_bind (pick_f _ _) ?_
    | with_reducible refine w_bind gV_tt ?_
    | with_reducible refine w_bind gV_ff ?_
    | with_reducible refine w_bind gV_tf ?_
    | with_reducible refine w_bind gV_ft ?_
    | with_reducible refine w_bind gB_tf ?_
    | with_reducible refine w_bind gB_ft ?_
    | with_reducible refine w_gE_tf ?_
    | with_reducible refine w_gE_ft ?_
    | with_reducible refine w_gE_tt ?_
    | with_reducible refine w_gE_ff ?_
    | with_reducible refine w_onK_tf ?_
    | with_reducible refine w_onK_ft ?_
    | with_reducible refine w_onK_tt ?_
    | with_reducible refine w_onK_ff ?_
    | with_reducible refine w_gld_tt ?_
    | with_reducible refine w_gld_ff ?_
    | with_reducible refine w_gld_tf ?_
    | with_reducible refine w_gld_ft ?_
    | with_reducible refine w_gldN_tt ?_
    | with_reducible refine w_gldN_ff ?_
    | with_reducible refine w_gldN_tf ?_
    | with_reducible refine w_gldN_ft ?_
    | with_reducible refine w_gB_tt ?_
    | with_reducible refine w_gB_ff ?_
    | with_reducible refine w_bind un_not ?_
    | with_reducible refine w_cond_t ?_
    | with_reducible refine w_cond_f ?_
    | with_reducible refine w_bind gV_u ?_
    | with_reducible refine w_bind gB_u ?_
    | with_reducible refine w_gld_u ?_)
  exact w_ret ⟨(), rfl, Holds.to (by assumption)⟩

/-! ### The program's windows -/
theorem slide_loop {P : SP} {s : Value} {l : List Int} [r : Rd P s 1 encI l] (hl : l.length < 1099511627776) (w mb n k : Nat) (hk : 1 ≤ k) (hkl : k < 1099511627776) (hn : n < 1099511627776) (x8 : Value) {R : SP} :
    ∀ (d i : Nat) (H : AH), i + d = l.length → Holds (winP w mb n (manyOf l n (i - k) i) * P * R) H →
      wp (pace_slide_k4 s (vi k) (.func (.func n_pace_window_turn) #[vp w] #[]) (.func (.func n_pace_window_full) #[vp w] #[]) x8 s (vi l.length) (vi i) H) fun v' H' => ∃ b : Bool, v' = vb b ∧ (b = true ↔ ∀ j : Nat, i ≤ j → j < l.length → k ≤ j + 1 → ∀ w : Nat, w < n → (w : Int) ∈ win l (j + 1 - k) (j + 1)) ∧ Holds (P * R) H' := by
  intro d
  induction d with
  | zero =>
    intro i H hi h
    refine wp_eq (pace_slide_k4_eq _ _ _ _ _ _ _ _ H) ?_
    refine w_bind (lss_f (by omega)) ?_
    repeat (first
      | with_reducible refine w_bind (pick_t _ _) ?_
      | with_reducible refine w_bind (pick_f _ _) ?_
      | with_reducible refine w_bind gV_tt ?_
      | with_reducible refine w_bind gV_ff ?_
      | with_reducible refine w_bind gV_tf ?_
      | with_reducible refine w_bind gV_ft ?_
      | with_reducible refine w_bind gB_tf ?_
      | with_reducible refine w_bind gB_ft ?_
      | with_reducible refine w_gE_tf ?_
      | with_reducible refine w_gE_ft ?_
      | with_reducible refine w_gE_tt ?_
      | with_reducible refine w_gE_ff ?_
      | with_reducible refine w_onK_tf ?_
      | with_reducible refine w_onK_ft ?_
      | with_reducible refine w_onK_tt ?_
      | with_reducible refine w_onK_ff ?_
      | with_reducible refine w_gld_tt ?_
      | with_reducible refine w_gld_ff ?_
      | with_reducible refine w_gld_tf ?_
      | with_reducible refine w_gld_ft ?_
      | with_reducible refine w_gldN_tt ?_
      | with_reducible refine w_gldN_ff ?_
      | with_reducible refine w_gldN_tf ?_
      | with_reducible refine w_gldN_ft ?_
      | with_reducible refine w_gB_tt ?_
      | with_reducible refine w_gB_ff ?_
      | with_reducible refine w_bind un_not ?_
      | with_reducible refine w_cond_t ?_
      | with_reducible refine w_cond_f ?_
      | with_reducible refine w_bind gV_u ?_
      | with_reducible refine w_bind gB_u ?_
      | with_reducible refine w_gld_u ?_)
    refine wp_eq (pace_slide_e3_0_eq _ H) ?_
    refine wp_eq (pace_slide_k1_eq _ H) ?_
    exact w_ret ⟨true, rfl, ⟨fun _ j h1 h2 => by omega, fun _ => rfl⟩, h.to⟩
  | succ d ih =>
    intro i H hi h
    have hil : i < l.length := by omega
    have bnd : ∀ {a b : Nat} {x : Int}, x ∈ manyOf l n a b → 0 ≤ x ∧ x ≤ 1099511627776 := by
      intro a b x hx
      obtain ⟨y, _, rfl⟩ := List.mem_map.1 hx
      have := cnt_le (l := l) (a := a) (b := b) (w := y)
      omega
    refine wp_eq (pace_slide_k4_eq _ _ _ _ _ _ _ _ H) ?_
    refine w_bind (lss_t (by omega)) ?_
    repeat (first
      | with_reducible refine w_bind (pick_t _ _) ?_
      | with_reducible refine w_bind (pick_f _ _) ?_
      | with_reducible refine w_bind gV_tt ?_
      | with_reducible refine w_bind gV_ff ?_
      | with_reducible refine w_bind gV_tf ?_
      | with_reducible refine w_bind gV_ft ?_
      | with_reducible refine w_bind gB_tf ?_
      | with_reducible refine w_bind gB_ft ?_
      | with_reducible refine w_gE_tf ?_
      | with_reducible refine w_gE_ft ?_
      | with_reducible refine w_gE_tt ?_
      | with_reducible refine w_gE_ff ?_
      | with_reducible refine w_onK_tf ?_
      | with_reducible refine w_onK_ft ?_
      | with_reducible refine w_onK_tt ?_
      | with_reducible refine w_onK_ff ?_
      | with_reducible refine w_gld_tt ?_
      | with_reducible refine w_gld_ff ?_
      | with_reducible refine w_gld_tf ?_
      | with_reducible refine w_gld_ft ?_
      | with_reducible refine w_gldN_tt ?_
      | with_reducible refine w_gldN_ff ?_
      | with_reducible refine w_gldN_tf ?_
      | with_reducible refine w_gldN_ft ?_
      | with_reducible refine w_gB_tt ?_
      | with_reducible refine w_gB_ff ?_
      | with_reducible refine w_bind un_not ?_
      | with_reducible refine w_cond_t ?_
      | with_reducible refine w_cond_f ?_
      | with_reducible refine w_bind gV_u ?_
      | with_reducible refine w_bind gB_u ?_
      | with_reducible refine w_gld_u ?_)
    refine wp_eq (pace_slide_k5_eq _ _ _ _ _ _ _ _ H) ?_
    refine w_rld1 h hil rfl ?_
    refine w_call h (win_turn w mb n (manyOf l n (i - k) i) l[i] 1 manyOf_len (fun x hx => by have := bnd hx; omega)) fun _ H1 h1 => ?_
    rw [bump_come (by omega) hil] at h1
    refine wp_eq (pace_slide_k9_eq _ _ _ _ _ _ _ _ _ H1) ?_
    -- the window as it is then
    have tail : ∀ H2, Holds (winP w mb n (manyOf l n (i + 1 - k) (i + 1)) * P * R) H2 → wp (pace_slide_k10 s (vi k) (.func (.func n_pace_window_turn) #[vp w] #[]) (.func (.func n_pace_window_full) #[vp w] #[]) x8 (vi i) s (vi l.length) (vi i) H2) fun v' H' => ∃ b : Bool, v' = vb b ∧ (b = true ↔ ∀ j : Nat, i ≤ j → j < l.length → k ≤ j + 1 → ∀ w : Nat, w < n → (w : Int) ∈ win l (j + 1 - k) (j + 1)) ∧ Holds (P * R) H' := by
      intro H2 h2
      have go : (k ≤ i + 1 → ∀ w : Nat, w < n → (w : Int) ∈ win l (i + 1 - k) (i + 1)) → ∀ H3, Holds (winP w mb n (manyOf l n (i + 1 - k) (i + 1)) * P * R) H3 → wp (pace_slide_k6 s (vi k) (.func (.func n_pace_window_turn) #[vp w] #[]) (.func (.func n_pace_window_full) #[vp w] #[]) x8 s (vi l.length) (vi i) H3) fun v' H' => ∃ b : Bool, v' = vb b ∧ (b = true ↔ ∀ j : Nat, i ≤ j → j < l.length → k ≤ j + 1 → ∀ w : Nat, w < n → (w : Int) ∈ win l (j + 1 - k) (j + 1)) ∧ Holds (P * R) H' := by
        intro hhere H3 h3
        refine wp_eq (pace_slide_k6_eq _ _ _ _ _ _ _ _ H3) ?_
        refine w_bind (bin_add_i (by omega) (by omega)) ?_
        refine wp.mono (ih (i + 1) H3 (by omega) h3) ?_
        rintro v' H' ⟨b, rfl, hb, hh⟩
        refine ⟨b, rfl, ?_, hh⟩
        rw [hb]
        constructor
        · intro hall j g1 g2 g3
          by_cases hj : j = i
          · subst hj; exact hhere g3
          · exact hall j (by omega) g2 g3
        · intro hall j g1 g2 g3
          exact hall j (by omega) g2 g3
      refine wp_eq (pace_slide_k10_eq _ _ _ _ _ _ _ _ _ H2) ?_
      refine w_bind (bin_sub_i (by omega) (by omega)) ?_
      by_cases hki : k ≤ i + 1
      · refine w_bind (geq_t (by omega)) ?_
        repeat (first
          | with_reducible refine w_bind (pick_t _ _) ?_
          | with_reducible refine w_bind (pick_f _ _) ?_
          | with_reducible refine w_bind gV_tt ?_
          | with_reducible refine w_bind gV_ff ?_
          | with_reducible refine w_bind gV_tf ?_
          | with_reducible refine w_bind gV_ft ?_
          | with_reducible refine w_bind gB_tf ?_
          | with_reducible refine w_bind gB_ft ?_
          | with_reducible refine w_gE_tf ?_
          | with_reducible refine w_gE_ft ?_
          | with_reducible refine w_gE_tt ?_
          | with_reducible refine w_gE_ff ?_
          | with_reducible refine w_onK_tf ?_
          | with_reducible refine w_onK_ft ?_
          | with_reducible refine w_onK_tt ?_
          | with_reducible refine w_onK_ff ?_
          | with_reducible refine w_gld_tt ?_
          | with_reducible refine w_gld_ff ?_
          | with_reducible refine w_gld_tf ?_
          | with_reducible refine w_gld_ft ?_
          | with_reducible refine w_gldN_tt ?_
          | with_reducible refine w_gldN_ff ?_
          | with_reducible refine w_gldN_tf ?_
          | with_reducible refine w_gldN_ft ?_
          | with_reducible refine w_gB_tt ?_
          | with_reducible refine w_gB_ff ?_
          | with_reducible refine w_bind un_not ?_
          | with_reducible refine w_cond_t ?_
          | with_reducible refine w_cond_f ?_
          | with_reducible refine w_bind gV_u ?_
          | with_reducible refine w_bind gB_u ?_
          | with_reducible refine w_gld_u ?_)
        refine w_call h2 (win_full w mb n (manyOf l n (i + 1 - k) (i + 1)) (by rw [manyOf_len]; omega)) fun _ H3 h3 => ?_
        repeat (first
          | with_reducible refine w_bind (pick_t _ _) ?_
          | with_reducible refine w_bind (pick_f _ _) ?_
          | with_reducible refine w_bind gV_tt ?_
          | with_reducible refine w_bind gV_ff ?_
          | with_reducible refine w_bind gV_tf ?_
          | with_reducible refine w_bind gV_ft ?_
          | with_reducible refine w_bind gB_tf ?_
          | with_reducible refine w_bind gB_ft ?_
          | with_reducible refine w_gE_tf ?_
          | with_reducible refine w_gE_ft ?_
          | with_reducible refine w_gE_tt ?_
          | with_reducible refine w_gE_ff ?_
          | with_reducible refine w_onK_tf ?_
          | with_reducible refine w_onK_ft ?_
          | with_reducible refine w_onK_tt ?_
          | with_reducible refine w_onK_ff ?_
          | with_reducible refine w_gld_tt ?_
          | with_reducible refine w_gld_ff ?_
          | with_reducible refine w_gld_tf ?_
          | with_reducible refine w_gld_ft ?_
          | with_reducible refine w_gldN_tt ?_
          | with_reducible refine w_gldN_ff ?_
          | with_reducible refine w_gldN_tf ?_
          | with_reducible refine w_gldN_ft ?_
          | with_reducible refine w_gB_tt ?_
          | with_reducible refine w_gB_ff ?_
          | with_reducible refine w_bind un_not ?_
          | with_reducible refine w_cond_t ?_
          | with_reducible refine w_cond_f ?_
          | with_reducible refine w_bind gV_u ?_
          | with_reducible refine w_bind gB_u ?_
          | with_reducible refine w_gld_u ?_)
        cases hf : fullB (manyOf l n (i + 1 - k) (i + 1)) with
        | true =>
          rw [Bool.not_true]
          repeat (first
            | with_reducible refine w_bind (pick_t _ _) ?_
            | with_reducible refine w_bind (pick_f _ _) ?_
            | with_reducible refine w_bind gV_tt ?_
            | with_reducible refine w_bind gV_ff ?_
            | with_reducible refine w_bind gV_tf ?_
            | with_reducible refine w_bind gV_ft ?_
            | with_reducible refine w_bind gB_tf ?_
            | with_reducible refine w_bind gB_ft ?_
            | with_reducible refine w_gE_tf ?_
            | with_reducible refine w_gE_ft ?_
            | with_reducible refine w_gE_tt ?_
            | with_reducible refine w_gE_ff ?_
            | with_reducible refine w_onK_tf ?_
            | with_reducible refine w_onK_ft ?_
            | with_reducible refine w_onK_tt ?_
            | with_reducible refine w_onK_ff ?_
            | with_reducible refine w_gld_tt ?_
            | with_reducible refine w_gld_ff ?_
            | with_reducible refine w_gld_tf ?_
            | with_reducible refine w_gld_ft ?_
            | with_reducible refine w_gldN_tt ?_
            | with_reducible refine w_gldN_ff ?_
            | with_reducible refine w_gldN_tf ?_
            | with_reducible refine w_gldN_ft ?_
            | with_reducible refine w_gB_tt ?_
            | with_reducible refine w_gB_ff ?_
            | with_reducible refine w_bind un_not ?_
            | with_reducible refine w_cond_t ?_
            | with_reducible refine w_cond_f ?_
            | with_reducible refine w_bind gV_u ?_
            | with_reducible refine w_bind gB_u ?_
            | with_reducible refine w_gld_u ?_)
          exact go (fun _ => full_iff.1 hf) H3 h3.to
        | false =>
          rw [Bool.not_false]
          repeat (first
            | with_reducible refine w_bind (pick_t _ _) ?_
            | with_reducible refine w_bind (pick_f _ _) ?_
            | with_reducible refine w_bind gV_tt ?_
            | with_reducible refine w_bind gV_ff ?_
            | with_reducible refine w_bind gV_tf ?_
            | with_reducible refine w_bind gV_ft ?_
            | with_reducible refine w_bind gB_tf ?_
            | with_reducible refine w_bind gB_ft ?_
            | with_reducible refine w_gE_tf ?_
            | with_reducible refine w_gE_ft ?_
            | with_reducible refine w_gE_tt ?_
            | with_reducible refine w_gE_ff ?_
            | with_reducible refine w_onK_tf ?_
            | with_reducible refine w_onK_ft ?_
            | with_reducible refine w_onK_tt ?_
            | with_reducible refine w_onK_ff ?_
            | with_reducible refine w_gld_tt ?_
            | with_reducible refine w_gld_ff ?_
            | with_reducible refine w_gld_tf ?_
            | with_reducible refine w_gld_ft ?_
            | with_reducible refine w_gldN_tt ?_
            | with_reducible refine w_gldN_ff ?_
            | with_reducible refine w_gldN_tf ?_
            | with_reducible refine w_gldN_ft ?_
            | with_reducible refine w_gB_tt ?_
            | with_reducible refine w_gB_ff ?_
            | with_reducible refine w_bind un_not ?_
            | with_reducible refine w_cond_t ?_
            | with_reducible refine w_cond_f ?_
            | with_reducible refine w_bind gV_u ?_
            | with_reducible refine w_bind gB_u ?_
            | with_reducible refine w_gld_u ?_)
          refine w_ret ⟨false, rfl, ⟨fun h => (by cases h), fun hall => ?_⟩, h3.to⟩
          have := full_iff.2 (hall i (Nat.le_refl _) hil hki)
          rw [hf] at this
          exact this
      · refine w_bind (geq_f (by omega)) ?_
        repeat (first
          | with_reducible refine w_bind (pick_t _ _) ?_
          | with_reducible refine w_bind (pick_f _ _) ?_
          | with_reducible refine w_bind gV_tt ?_
          | with_reducible refine w_bind gV_ff ?_
          | with_reducible refine w_bind gV_tf ?_
          | with_reducible refine w_bind gV_ft ?_
          | with_reducible refine w_bind gB_tf ?_
          | with_reducible refine w_bind gB_ft ?_
          | with_reducible refine w_gE_tf ?_
          | with_reducible refine w_gE_ft ?_
          | with_reducible refine w_gE_tt ?_
          | with_reducible refine w_gE_ff ?_
          | with_reducible refine w_onK_tf ?_
          | with_reducible refine w_onK_ft ?_
          | with_reducible refine w_onK_tt ?_
          | with_reducible refine w_onK_ff ?_
          | with_reducible refine w_gld_tt ?_
          | with_reducible refine w_gld_ff ?_
          | with_reducible refine w_gld_tf ?_
          | with_reducible refine w_gld_ft ?_
          | with_reducible refine w_gldN_tt ?_
          | with_reducible refine w_gldN_ff ?_
          | with_reducible refine w_gldN_tf ?_
          | with_reducible refine w_gldN_ft ?_
          | with_reducible refine w_gB_tt ?_
          | with_reducible refine w_gB_ff ?_
          | with_reducible refine w_bind un_not ?_
          | with_reducible refine w_cond_t ?_
          | with_reducible refine w_cond_f ?_
          | with_reducible refine w_bind gV_u ?_
          | with_reducible refine w_bind gB_u ?_
          | with_reducible refine w_gld_u ?_)
        exact go (fun h => absurd h hki) H2 h2
    by_cases hki : k ≤ i
    · refine w_bind (geq_t (by omega)) ?_
      repeat (first
        | with_reducible refine w_bind (pick_t _ _) ?_
        | with_reducible refine w_bind (pick_f _ _) ?_
        | with_reducible refine w_bind gV_tt ?_
        | with_reducible refine w_bind gV_ff ?_
        | with_reducible refine w_bind gV_tf ?_
        | with_reducible refine w_bind gV_ft ?_
        | with_reducible refine w_bind gB_tf ?_
        | with_reducible refine w_bind gB_ft ?_
        | with_reducible refine w_gE_tf ?_
        | with_reducible refine w_gE_ft ?_
        | with_reducible refine w_gE_tt ?_
        | with_reducible refine w_gE_ff ?_
        | with_reducible refine w_onK_tf ?_
        | with_reducible refine w_onK_ft ?_
        | with_reducible refine w_onK_tt ?_
        | with_reducible refine w_onK_ff ?_
        | with_reducible refine w_gld_tt ?_
        | with_reducible refine w_gld_ff ?_
        | with_reducible refine w_gld_tf ?_
        | with_reducible refine w_gld_ft ?_
        | with_reducible refine w_gldN_tt ?_
        | with_reducible refine w_gldN_ff ?_
        | with_reducible refine w_gldN_tf ?_
        | with_reducible refine w_gldN_ft ?_
        | with_reducible refine w_gB_tt ?_
        | with_reducible refine w_gB_ff ?_
        | with_reducible refine w_bind un_not ?_
        | with_reducible refine w_cond_t ?_
        | with_reducible refine w_cond_f ?_
        | with_reducible refine w_bind gV_u ?_
        | with_reducible refine w_bind gB_u ?_
        | with_reducible refine w_gld_u ?_)
      refine w_bind (bin_sub_i (by omega) (by omega)) ?_
      rw [show ((i : Int) - (k : Int)) = ((i - k : Nat) : Int) from by omega]
      refine w_rld1 (l := l) h1 (i := i - k) (by omega) rfl ?_
      refine w_call h1 (win_turn w mb n (manyOf l n (i - k) (i + 1)) l[i - k] (-1) manyOf_len (fun x hx => by have := bnd hx; omega)) fun _ H2 h2 => ?_
      rw [bump_go (by omega) (by omega), show i - k + 1 = i + 1 - k from by omega] at h2
      exact tail H2 h2.to
    · refine w_bind (geq_f (by omega)) ?_
      repeat (first
        | with_reducible refine w_bind (pick_t _ _) ?_
        | with_reducible refine w_bind (pick_f _ _) ?_
        | with_reducible refine w_bind gV_tt ?_
        | with_reducible refine w_bind gV_ff ?_
        | with_reducible refine w_bind gV_tf ?_
        | with_reducible refine w_bind gV_ft ?_
        | with_reducible refine w_bind gB_tf ?_
        | with_reducible refine w_bind gB_ft ?_
        | with_reducible refine w_gE_tf ?_
        | with_reducible refine w_gE_ft ?_
        | with_reducible refine w_gE_tt ?_
        | with_reducible refine w_gE_ff ?_
        | with_reducible refine w_onK_tf ?_
        | with_reducible refine w_onK_ft ?_
        | with_reducible refine w_onK_tt ?_
        | with_reducible refine w_onK_ff ?_
        | with_reducible refine w_gld_tt ?_
        | with_reducible refine w_gld_ff ?_
        | with_reducible refine w_gld_tf ?_
        | with_reducible refine w_gld_ft ?_
        | with_reducible refine w_gldN_tt ?_
        | with_reducible refine w_gldN_ff ?_
        | with_reducible refine w_gldN_tf ?_
        | with_reducible refine w_gldN_ft ?_
        | with_reducible refine w_gB_tt ?_
        | with_reducible refine w_gB_ff ?_
        | with_reducible refine w_bind un_not ?_
        | with_reducible refine w_cond_t ?_
        | with_reducible refine w_cond_f ?_
        | with_reducible refine w_bind gV_u ?_
        | with_reducible refine w_bind gB_u ?_
        | with_reducible refine w_gld_u ?_)
      rw [show i - k = i + 1 - k from by omega] at h1
      exact tail H1 h1.to
end Go.Proofs.YtbjelopcelompaaGreatDoor.Gst
