/- Words, the table: of the program and of the reference. -/
import Derived.Test.YtodpbobjmkhcfaaGreatDoorJa
namespace Go.Proofs.YtodpbobjmkhcfaaGreatDoor.Gst
open Go Go.RowKit
set_option linter.unusedSimpArgs false
set_option linter.unusedVariables false
set_option maxHeartbeats 1000000

/-! ### Words -/
def wRight (w : Nat) : Bool := decide (w / 2305843009213693952 < 3)
def wCount (w : Nat) : Nat := if wRight w then w % 2305843009213693952 else 0
def wState (w : Nat) : Int := if wRight w then (w / 2305843009213693952 : Nat) else -1
/-- 0: one more; 1: it rests; 2: it is shut. -/
def wTurn (w : Nat) : Nat → Option Nat
  | 0 => if wRight w ∧ wState w ≠ 2 ∧ wCount w < 2305843009213693951 then some (wCount w + 1 + 2305843009213693952) else none
  | 1 => if wState w = 1 then some (wCount w) else none
  | 2 => if wState w = 0 then some (wCount w + 4611686018427387904) else none
  | _ => none
/-- A number, or none. -/
def optV : Option Nat → Value
  | some n => .tuple #[vu n, vb true]
  | none => .tuple #[vw 0, vb false]

theorem word_right (w : Nat) : Sp n_word_Right [vu w] emp (fun _ : Unit => vb (wRight w)) (fun _ => emp) := by
  refine sp_of fun R H h => ?_
  refine wp_of (fun r => word_Right_of _ H) ?_
  refine w_bind (shr61) ?_
  refine w_bind (bin_lss) ?_
  refine w_ret ⟨(), ?_, h⟩
  congr 1
  unfold wRight
  congr 1
  apply propext
  omega
theorem word_count (w : Nat) (hw : w < 18446744073709551616) : Sp n_word_Count [vu w] emp (fun _ : Unit => vu (wCount w)) (fun _ => emp) := by
  refine sp_of fun R H h => ?_
  refine wp_of (fun r => word_Count_of _ H) ?_
  refine w_call (by assumption) (word_right w) fun _ _ _ => ?_
  refine w_bind (un_not) ?_
  refine w_cond (fun hc => ?_) (fun hc => ?_)
  · have hc : wRight w = false := by simpa using hc
    refine w_ret ⟨(), by simp [wCount, hc], Holds.to (by assumption)⟩
  · have hc : wRight w = true := by simpa using hc
    refine w_bind (and61 hw) ?_
    refine w_ret ⟨(), by simp [wCount, hc], Holds.to (by assumption)⟩
theorem word_state (w : Nat) (hw : w < 18446744073709551616) : Sp n_word_State [vu w] emp (fun _ : Unit => vi (wState w)) (fun _ => emp) := by
  refine sp_of fun R H h => ?_
  refine wp_of (fun r => word_State_of _ H) ?_
  refine w_call (by assumption) (word_right w) fun _ _ _ => ?_
  refine w_bind (un_not) ?_
  refine w_cond (fun hc => ?_) (fun hc => ?_)
  · have hc : wRight w = false := by simpa using hc
    refine w_ret ⟨(), by simp [wState, hc], Holds.to (by assumption)⟩
  · have hc : wRight w = true := by simpa using hc
    refine w_bind (shr61) ?_
    refine w_bind (conv_iu (by omega)) ?_
    refine w_ret ⟨(), by simp [wState, hc], Holds.to (by assumption)⟩
theorem r01_parts (w : Nat) (hw : w < 18446744073709551616) : Sp n_r01_Parts [vu w] emp (fun _ : Unit => .tuple #[vu (wCount w), vi (wState w), vb (wRight w)]) (fun _ => emp) := by
  refine sp_of fun R H h => ?_
  refine wp_of (fun r => r01_Parts_of _ H) ?_
  refine w_bind (rem61) ?_
  refine w_bind (quo61 hw) ?_
  refine w_bind (conv_iu (by omega)) ?_
  refine w_bind (bin_gtr) ?_
  refine w_cond (fun hc => ?_) (fun hc => ?_)
  · have hc : wRight w = false := by simp at hc; simp [wRight]; omega
    refine w_ret ⟨(), by simp [wCount, wState, hc], h.to⟩
  · have hc : wRight w = true := by simp at hc; simp [wRight]; omega
    refine w_ret ⟨(), by simp [wCount, wState, hc], h.to⟩

/-! What is known of a comparison -/
theorem word_pack (n : Nat) (s : Nat) (hn : n ≤ 2305843009213693951) (hs : s < 3) : Sp n_word_Pack [vu n, vi (s : Int)] emp (fun _ : Unit => .tuple #[vu (s * 2305843009213693952 + n), vb true]) (fun _ => emp) := by
  refine sp_of fun R H h => ?_
  refine wp_of (fun r => word_Pack_of _ _ H) ?_
  refine w_bind (gtr_f (by omega)) ?_
  repeat (first
    | with_reducible refine w_bind (pick_t _ _) ?_
    | with_reducible refine w_bind (pick_f _ _) ?_
    | with_reducible refine w_bind gV_tt ?_
    | with_reducible refine w_bind gV_ff ?_
    | with_reducible refine w_bind gV_tf ?_
    | with_reducible refine w_bind gV_ft ?_
    | with_reducible refine w_bind gB_tf ?_
    | with_reducible refine w_bind gB_ft ?_
    | with_reducible refine w_gE_tf ?_
    | with_reducible refine w_gE_ft ?_
    | with_reducible refine w_gE_tt ?_
    | with_reducible refine w_gE_ff ?_
    | with_reducible refine w_onK_tf ?_
    | with_reducible refine w_onK_ft ?_
    | with_reducible refine w_onK_tt ?_
    | with_reducible refine w_onK_ff ?_)
  refine w_bind (gB_y (lss_f ?_)) ?_
  · omega
  repeat (first
    | with_reducible refine w_bind (pick_t _ _) ?_
    | with_reducible refine w_bind (pick_f _ _) ?_
    | with_reducible refine w_bind gV_tt ?_
    | with_reducible refine w_bind gV_ff ?_
    | with_reducible refine w_bind gV_tf ?_
    | with_reducible refine w_bind gV_ft ?_
    | with_reducible refine w_bind gB_tf ?_
    | with_reducible refine w_bind gB_ft ?_
    | with_reducible refine w_gE_tf ?_
    | with_reducible refine w_gE_ft ?_
    | with_reducible refine w_gE_tt ?_
    | with_reducible refine w_gE_ff ?_
    | with_reducible refine w_onK_tf ?_
    | with_reducible refine w_onK_ft ?_
    | with_reducible refine w_onK_tt ?_
    | with_reducible refine w_onK_ff ?_)
  refine w_bind (gB_y (geq_f ?_)) ?_
  · omega
  repeat (first
    | with_reducible refine w_bind (pick_t _ _) ?_
    | with_reducible refine w_bind (pick_f _ _) ?_
    | with_reducible refine w_bind gV_tt ?_
    | with_reducible refine w_bind gV_ff ?_
    | with_reducible refine w_bind gV_tf ?_
    | with_reducible refine w_bind gV_ft ?_
    | with_reducible refine w_bind gB_tf ?_
    | with_reducible refine w_bind gB_ft ?_
    | with_reducible refine w_gE_tf ?_
    | with_reducible refine w_gE_ft ?_
    | with_reducible refine w_gE_tt ?_
    | with_reducible refine w_gE_ff ?_
    | with_reducible refine w_onK_tf ?_
    | with_reducible refine w_onK_ft ?_
    | with_reducible refine w_onK_tt ?_
    | with_reducible refine w_onK_ff ?_)
  refine w_cond (fun hc => by cases hc) (fun _ => ?_)
  refine w_bind (conv_ui (by omega) (by omega)) ?_
  have e1 : pBin .other .shl (vu (s : Int).toNat) (vw 61) = some (vu (s * 2305843009213693952)) := by
    have := bin_shl_u (cl := .other) (a := s) (k := .u64) (n := 61) (by omega)
    simp only [Nat.reducePow] at this
    rw [Nat.mod_eq_of_lt (by omega)] at this
    simpa using this
  refine w_bind (e1) ?_
  have e2 : pBin .other .or (vu (s * 2305843009213693952)) (vu n) = some (vu (s * 2305843009213693952 + n)) := by
    rw [bin_or (by omega) (by omega)]
    congr 3
    have := Nat.two_pow_add_eq_or_of_lt (i := 61) (b := n) (by simp only [Nat.reducePow]; omega) s
    simp only [Nat.reducePow] at this
    rw [Nat.mul_comm, ← this]
  refine w_bind (e2) ?_
  exact w_ret ⟨(), rfl, h.to⟩
theorem r01_pack (n : Nat) (s : Nat) (hn : n ≤ 2305843009213693951) (hs : s < 3) : Sp n_r01_Pack [vu n, vi (s : Int)] emp (fun _ : Unit => .tuple #[vu (s * 2305843009213693952 + n), vb true]) (fun _ => emp) := by
  refine sp_of fun R H h => ?_
  refine wp_of (fun r => r01_Pack_of _ _ H) ?_
  refine w_bind (gtr_f (by omega)) ?_
  repeat (first
    | with_reducible refine w_bind (pick_t _ _) ?_
    | with_reducible refine w_bind (pick_f _ _) ?_
    | with_reducible refine w_bind gV_tt ?_
    | with_reducible refine w_bind gV_ff ?_
    | with_reducible refine w_bind gV_tf ?_
    | with_reducible refine w_bind gV_ft ?_
    | with_reducible refine w_bind gB_tf ?_
    | with_reducible refine w_bind gB_ft ?_
    | with_reducible refine w_gE_tf ?_
    | with_reducible refine w_gE_ft ?_
    | with_reducible refine w_gE_tt ?_
    | with_reducible refine w_gE_ff ?_
    | with_reducible refine w_onK_tf ?_
    | with_reducible refine w_onK_ft ?_
    | with_reducible refine w_onK_tt ?_
    | with_reducible refine w_onK_ff ?_)
  refine w_bind (gB_y (lss_f ?_)) ?_
  · omega
  repeat (first
    | with_reducible refine w_bind (pick_t _ _) ?_
    | with_reducible refine w_bind (pick_f _ _) ?_
    | with_reducible refine w_bind gV_tt ?_
    | with_reducible refine w_bind gV_ff ?_
    | with_reducible refine w_bind gV_tf ?_
    | with_reducible refine w_bind gV_ft ?_
    | with_reducible refine w_bind gB_tf ?_
    | with_reducible refine w_bind gB_ft ?_
    | with_reducible refine w_gE_tf ?_
    | with_reducible refine w_gE_ft ?_
    | with_reducible refine w_gE_tt ?_
    | with_reducible refine w_gE_ff ?_
    | with_reducible refine w_onK_tf ?_
    | with_reducible refine w_onK_ft ?_
    | with_reducible refine w_onK_tt ?_
    | with_reducible refine w_onK_ff ?_)
  refine w_bind (gB_y (gtr_f ?_)) ?_
  · omega
  repeat (first
    | with_reducible refine w_bind (pick_t _ _) ?_
    | with_reducible refine w_bind (pick_f _ _) ?_
    | with_reducible refine w_bind gV_tt ?_
    | with_reducible refine w_bind gV_ff ?_
    | with_reducible refine w_bind gV_tf ?_
    | with_reducible refine w_bind gV_ft ?_
    | with_reducible refine w_bind gB_tf ?_
    | with_reducible refine w_bind gB_ft ?_
    | with_reducible refine w_gE_tf ?_
    | with_reducible refine w_gE_ft ?_
    | with_reducible refine w_gE_tt ?_
    | with_reducible refine w_gE_ff ?_
    | with_reducible refine w_onK_tf ?_
    | with_reducible refine w_onK_ft ?_
    | with_reducible refine w_onK_tt ?_
    | with_reducible refine w_onK_ff ?_)
  refine w_cond (fun hc => by cases hc) (fun _ => ?_)
  refine w_bind (conv_ui (by omega) (by omega)) ?_
  have hs2 : (s : Int).toNat = s := by omega
  rw [hs2]
  refine w_bind (mul61 (by omega)) ?_
  refine w_bind (bin_add_u (by omega)) ?_
  exact w_ret ⟨(), rfl, h.to⟩
theorem wCount_le (w : Nat) : wCount w ≤ 2305843009213693951 := by unfold wCount; split <;> omega
theorem wState_in (w : Nat) : wState w = -1 ∨ wState w = 0 ∨ wState w = 1 ∨ wState w = 2 := by
  unfold wState
  cases h : wRight w with
  | false => simp
  | true => simp [wRight] at h; simp; omega

theorem wT0_s {w : Nat} (h : wRight w = true ∧ wState w ≠ 2 ∧ wCount w < 2305843009213693951) : wTurn w 0 = some (wCount w + 1 + 2305843009213693952) := if_pos h
theorem wT0_n {w : Nat} (h : ¬ (wRight w = true ∧ wState w ≠ 2 ∧ wCount w < 2305843009213693951)) : wTurn w 0 = none := if_neg h
theorem wT1_s {w : Nat} (h : wState w = 1) : wTurn w 1 = some (wCount w) := if_pos h
theorem wT1_n {w : Nat} (h : ¬ wState w = 1) : wTurn w 1 = none := if_neg h
theorem wT2_s {w : Nat} (h : wState w = 0) : wTurn w 2 = some (wCount w + 4611686018427387904) := if_pos h
theorem wT2_n {w : Nat} (h : ¬ wState w = 0) : wTurn w 2 = none := if_neg h
theorem word_more (w : Nat) (hw : w < 18446744073709551616) : Sp n_word_More [vu w] emp (fun _ : Unit => optV (wTurn w 0)) (fun _ => emp) := by
  refine sp_of fun R H h => ?_
  refine wp_of (fun r => word_More_of _ H) ?_
  have hcl := wCount_le w
  refine w_call (by assumption) (word_right w) fun _ _ _ => ?_
  refine w_bind (un_not) ?_
  by_cases hr : wRight w = true
  · rw [hr, Bool.not_true]
    repeat (first
      | with_reducible refine w_bind (pick_t _ _) ?_
      | with_reducible refine w_bind (pick_f _ _) ?_
      | with_reducible refine w_bind gV_tt ?_
      | with_reducible refine w_bind gV_ff ?_
      | with_reducible refine w_bind gV_tf ?_
      | with_reducible refine w_bind gV_ft ?_
      | with_reducible refine w_bind gB_tf ?_
      | with_reducible refine w_bind gB_ft ?_
      | with_reducible refine w_gE_tf ?_
      | with_reducible refine w_gE_ft ?_
      | with_reducible refine w_gE_tt ?_
      | with_reducible refine w_gE_ff ?_
      | with_reducible refine w_onK_tf ?_
      | with_reducible refine w_onK_ft ?_
      | with_reducible refine w_onK_tt ?_
      | with_reducible refine w_onK_ff ?_)
    refine w_call (by assumption) (word_state w hw) fun _ _ _ => ?_
    refine w_bind (gB_y (bin_eql)) ?_
    by_cases hs : wState w = 2
    · rw [beq_iff_eq.2 hs]
      repeat (first
        | with_reducible refine w_bind (pick_t _ _) ?_
        | with_reducible refine w_bind (pick_f _ _) ?_
        | with_reducible refine w_bind gV_tt ?_
        | with_reducible refine w_bind gV_ff ?_
        | with_reducible refine w_bind gV_tf ?_
        | with_reducible refine w_bind gV_ft ?_
        | with_reducible refine w_bind gB_tf ?_
        | with_reducible refine w_bind gB_ft ?_
        | with_reducible refine w_gE_tf ?_
        | with_reducible refine w_gE_ft ?_
        | with_reducible refine w_gE_tt ?_
        | with_reducible refine w_gE_ff ?_
        | with_reducible refine w_onK_tf ?_
        | with_reducible refine w_onK_ft ?_
        | with_reducible refine w_onK_tt ?_
        | with_reducible refine w_onK_ff ?_)
      refine w_cond (fun _ => ?_) (fun hc => by cases hc)
      exact w_ret ⟨(), by rw [wT0_n (fun h => h.2.1 hs)]; rfl, Holds.to (by assumption)⟩
    · rw [beq_eq_false_iff_ne.2 hs]
      repeat (first
        | with_reducible refine w_bind (pick_t _ _) ?_
        | with_reducible refine w_bind (pick_f _ _) ?_
        | with_reducible refine w_bind gV_tt ?_
        | with_reducible refine w_bind gV_ff ?_
        | with_reducible refine w_bind gV_tf ?_
        | with_reducible refine w_bind gV_ft ?_
        | with_reducible refine w_bind gB_tf ?_
        | with_reducible refine w_bind gB_ft ?_
        | with_reducible refine w_gE_tf ?_
        | with_reducible refine w_gE_ft ?_
        | with_reducible refine w_gE_tt ?_
        | with_reducible refine w_gE_ff ?_
        | with_reducible refine w_onK_tf ?_
        | with_reducible refine w_onK_ft ?_
        | with_reducible refine w_onK_tt ?_
        | with_reducible refine w_onK_ff ?_)
      refine w_call (by assumption) (word_count w hw) fun _ _ _ => ?_
      refine w_bind (gB_y (bin_eql)) ?_
      repeat (first
        | with_reducible refine w_bind (pick_t _ _) ?_
        | with_reducible refine w_bind (pick_f _ _) ?_
        | with_reducible refine w_bind gV_tt ?_
        | with_reducible refine w_bind gV_ff ?_
        | with_reducible refine w_bind gV_tf ?_
        | with_reducible refine w_bind gV_ft ?_
        | with_reducible refine w_bind gB_tf ?_
        | with_reducible refine w_bind gB_ft ?_
        | with_reducible refine w_gE_tf ?_
        | with_reducible refine w_gE_ft ?_
        | with_reducible refine w_gE_tt ?_
        | with_reducible refine w_gE_ff ?_
        | with_reducible refine w_onK_tf ?_
        | with_reducible refine w_onK_ft ?_
        | with_reducible refine w_onK_tt ?_
        | with_reducible refine w_onK_ff ?_)
      refine w_cond (fun hc => ?_) (fun hc => ?_)
      · have hc : (wCount w : Int) = 2305843009213693951 := by simpa using hc
        exact w_ret ⟨(), by rw [wT0_n (fun h => by have := h.2.2; omega)]; rfl, Holds.to (by assumption)⟩
      · have hc : ¬ (wCount w : Int) = 2305843009213693951 := by simpa using hc
        have ht := wT0_s (w := w) ⟨hr, hs, by omega⟩
        refine w_call (by assumption) (word_count w hw) fun _ _ _ => ?_
        refine w_bind (bin_add_u (b := 1) (by omega)) ?_
        refine w_call (by assumption) (word_pack (wCount w + 1) 1 (by omega) (by omega)) fun _ _ _ => ?_
        refine w_bind rfl ?_
        refine w_bind rfl ?_
        refine w_ret ⟨(), ?_, Holds.to (by assumption)⟩
        rw [ht]
        simp [optV]
        omega
  · have hr : wRight w = false := by simpa using hr
    rw [hr, Bool.not_false]
    repeat (first
      | with_reducible refine w_bind (pick_t _ _) ?_
      | with_reducible refine w_bind (pick_f _ _) ?_
      | with_reducible refine w_bind gV_tt ?_
      | with_reducible refine w_bind gV_ff ?_
      | with_reducible refine w_bind gV_tf ?_
      | with_reducible refine w_bind gV_ft ?_
      | with_reducible refine w_bind gB_tf ?_
      | with_reducible refine w_bind gB_ft ?_
      | with_reducible refine w_gE_tf ?_
      | with_reducible refine w_gE_ft ?_
      | with_reducible refine w_gE_tt ?_
      | with_reducible refine w_gE_ff ?_
      | with_reducible refine w_onK_tf ?_
      | with_reducible refine w_onK_ft ?_
      | with_reducible refine w_onK_tt ?_
      | with_reducible refine w_onK_ff ?_)
    refine w_cond (fun _ => ?_) (fun hc => by cases hc)
    exact w_ret ⟨(), by rw [wT0_n (fun h => by rw [hr] at h; cases h.1)]; rfl, Holds.to (by assumption)⟩
theorem word_rest (w : Nat) (hw : w < 18446744073709551616) : Sp n_word_Rest [vu w] emp (fun _ : Unit => optV (wTurn w 1)) (fun _ => emp) := by
  refine sp_of fun R H h => ?_
  refine wp_of (fun r => word_Rest_of _ H) ?_
  have hcl := wCount_le w
  refine w_call (by assumption) (word_state w hw) fun _ _ _ => ?_
  refine w_bind (bin_neq) ?_
  refine w_cond (fun hc => ?_) (fun hc => ?_)
  · have hc : ¬ wState w = 1 := by simpa using hc
    exact w_ret ⟨(), by rw [wT1_n hc]; rfl, Holds.to (by assumption)⟩
  · have hc : wState w = 1 := by simpa using hc
    refine w_call (by assumption) (word_count w hw) fun _ _ _ => ?_
    refine w_call (by assumption) (word_pack (wCount w) 0 (by omega) (by omega)) fun _ _ _ => ?_
    refine w_bind rfl ?_
    refine w_bind rfl ?_
    exact w_ret ⟨(), by rw [wT1_s hc]; simp [optV], Holds.to (by assumption)⟩
theorem word_shut (w : Nat) (hw : w < 18446744073709551616) : Sp n_word_Shut [vu w] emp (fun _ : Unit => optV (wTurn w 2)) (fun _ => emp) := by
  refine sp_of fun R H h => ?_
  refine wp_of (fun r => word_Shut_of _ H) ?_
  have hcl := wCount_le w
  refine w_call (by assumption) (word_state w hw) fun _ _ _ => ?_
  refine w_bind (bin_neq) ?_
  refine w_cond (fun hc => ?_) (fun hc => ?_)
  · have hc : ¬ wState w = 0 := by simpa using hc
    exact w_ret ⟨(), by rw [wT2_n hc]; rfl, Holds.to (by assumption)⟩
  · have hc : wState w = 0 := by simpa using hc
    refine w_call (by assumption) (word_count w hw) fun _ _ _ => ?_
    refine w_call (by assumption) (word_pack (wCount w) 2 (by omega) (by omega)) fun _ _ _ => ?_
    refine w_bind rfl ?_
    refine w_bind rfl ?_
    refine w_ret ⟨(), ?_, Holds.to (by assumption)⟩
    rw [wT2_s hc]
    simp [optV]
    omega

theorem r01_turned (w how : Nat) (hw : w < 18446744073709551616) (hh : how < 3) : Sp n_r01_Turned [vu w, vi (how : Int)] emp (fun _ : Unit => optV (wTurn w how)) (fun _ => emp) := by
  refine sp_of fun R H h => ?_
  refine wp_of (fun r => r01_Turned_of _ _ H) ?_
  have hcl := wCount_le w
  refine w_call (by assumption) (r01_parts w hw) fun _ H1 h1 => ?_
  refine w_bind rfl ?_
  refine w_bind rfl ?_
  refine w_bind rfl ?_
  refine wp_eq (r01_Turned_k0_eq _ _ _ _ _ _ H1) ?_
  refine w_bind (un_not) ?_
  refine w_cond (fun hc => ?_) (fun hc => ?_)
  · have hc : wRight w = false := by simpa using hc
    have : wTurn w how = none := by
      match how, hh with
      | 0, _ => simp [wTurn, hc]
      | 1, _ => simp [wTurn, wState, hc]
      | 2, _ => simp [wTurn, wState, hc]
    exact w_ret ⟨(), by rw [this]; rfl, Holds.to (by assumption)⟩
  · have hr : wRight w = true := by simpa using hc
    match how, hh with
    | 0, _ =>
      refine w_bind (eql_t rfl) ?_
      repeat (first
        | with_reducible refine w_bind (pick_t _ _) ?_
        | with_reducible refine w_bind (pick_f _ _) ?_
        | with_reducible refine w_bind gV_tt ?_
        | with_reducible refine w_bind gV_ff ?_
        | with_reducible refine w_bind gV_tf ?_
        | with_reducible refine w_bind gV_ft ?_
        | with_reducible refine w_bind gB_tf ?_
        | with_reducible refine w_bind gB_ft ?_
        | with_reducible refine w_gE_tf ?_
        | with_reducible refine w_gE_ft ?_
        | with_reducible refine w_gE_tt ?_
        | with_reducible refine w_gE_ff ?_
        | with_reducible refine w_onK_tf ?_
        | with_reducible refine w_onK_ft ?_
        | with_reducible refine w_onK_tt ?_
        | with_reducible refine w_onK_ff ?_)
      refine w_bind (gB_y (bin_neq)) ?_
      repeat (first
        | with_reducible refine w_bind (pick_t _ _) ?_
        | with_reducible refine w_bind (pick_f _ _) ?_
        | with_reducible refine w_bind gV_tt ?_
        | with_reducible refine w_bind gV_ff ?_
        | with_reducible refine w_bind gV_tf ?_
        | with_reducible refine w_bind gV_ft ?_
        | with_reducible refine w_bind gB_tf ?_
        | with_reducible refine w_bind gB_ft ?_
        | with_reducible refine w_gE_tf ?_
        | with_reducible refine w_gE_ft ?_
        | with_reducible refine w_gE_tt ?_
        | with_reducible refine w_gE_ff ?_
        | with_reducible refine w_onK_tf ?_
        | with_reducible refine w_onK_ft ?_
        | with_reducible refine w_onK_tt ?_
        | with_reducible refine w_onK_ff ?_)
      by_cases hs : wState w = 2
      · rw [bne_eq_false_iff_eq.2 hs]
        repeat (first
          | with_reducible refine w_bind (pick_t _ _) ?_
          | with_reducible refine w_bind (pick_f _ _) ?_
          | with_reducible refine w_bind gV_tt ?_
          | with_reducible refine w_bind gV_ff ?_
          | with_reducible refine w_bind gV_tf ?_
          | with_reducible refine w_bind gV_ft ?_
          | with_reducible refine w_bind gB_tf ?_
          | with_reducible refine w_bind gB_ft ?_
          | with_reducible refine w_gE_tf ?_
          | with_reducible refine w_gE_ft ?_
          | with_reducible refine w_gE_tt ?_
          | with_reducible refine w_gE_ff ?_
          | with_reducible refine w_onK_tf ?_
          | with_reducible refine w_onK_ft ?_
          | with_reducible refine w_onK_tt ?_
          | with_reducible refine w_onK_ff ?_)
        refine w_cond (fun hc => by cases hc) (fun _ => ?_)
        refine w_bind (eql_f ?_) ?_
        · omega
        repeat (first
          | with_reducible refine w_bind (pick_t _ _) ?_
          | with_reducible refine w_bind (pick_f _ _) ?_
          | with_reducible refine w_bind gV_tt ?_
          | with_reducible refine w_bind gV_ff ?_
          | with_reducible refine w_bind gV_tf ?_
          | with_reducible refine w_bind gV_ft ?_
          | with_reducible refine w_bind gB_tf ?_
          | with_reducible refine w_bind gB_ft ?_
          | with_reducible refine w_gE_tf ?_
          | with_reducible refine w_gE_ft ?_
          | with_reducible refine w_gE_tt ?_
          | with_reducible refine w_gE_ff ?_
          | with_reducible refine w_onK_tf ?_
          | with_reducible refine w_onK_ft ?_
          | with_reducible refine w_onK_tt ?_
          | with_reducible refine w_onK_ff ?_)
        refine w_cond (fun hc => by cases hc) (fun _ => ?_)
        refine w_bind (eql_f ?_) ?_
        · omega
        repeat (first
          | with_reducible refine w_bind (pick_t _ _) ?_
          | with_reducible refine w_bind (pick_f _ _) ?_
          | with_reducible refine w_bind gV_tt ?_
          | with_reducible refine w_bind gV_ff ?_
          | with_reducible refine w_bind gV_tf ?_
          | with_reducible refine w_bind gV_ft ?_
          | with_reducible refine w_bind gB_tf ?_
          | with_reducible refine w_bind gB_ft ?_
          | with_reducible refine w_gE_tf ?_
          | with_reducible refine w_gE_ft ?_
          | with_reducible refine w_gE_tt ?_
          | with_reducible refine w_gE_ff ?_
          | with_reducible refine w_onK_tf ?_
          | with_reducible refine w_onK_ft ?_
          | with_reducible refine w_onK_tt ?_
          | with_reducible refine w_onK_ff ?_)
        refine w_cond (fun hc => by cases hc) (fun _ => ?_)
        refine wp_eq (r01_Turned_k1_eq _ _ H1) ?_
        exact w_ret ⟨(), by rw [wT0_n (fun h => h.2.1 hs)]; rfl, Holds.to (by assumption)⟩
      · rw [bne_iff_ne.2 hs]
        repeat (first
          | with_reducible refine w_bind (pick_t _ _) ?_
          | with_reducible refine w_bind (pick_f _ _) ?_
          | with_reducible refine w_bind gV_tt ?_
          | with_reducible refine w_bind gV_ff ?_
          | with_reducible refine w_bind gV_tf ?_
          | with_reducible refine w_bind gV_ft ?_
          | with_reducible refine w_bind gB_tf ?_
          | with_reducible refine w_bind gB_ft ?_
          | with_reducible refine w_gE_tf ?_
          | with_reducible refine w_gE_ft ?_
          | with_reducible refine w_gE_tt ?_
          | with_reducible refine w_gE_ff ?_
          | with_reducible refine w_onK_tf ?_
          | with_reducible refine w_onK_ft ?_
          | with_reducible refine w_onK_tt ?_
          | with_reducible refine w_onK_ff ?_)
        refine w_bind (gB_y (bin_lss)) ?_
        repeat (first
          | with_reducible refine w_bind (pick_t _ _) ?_
          | with_reducible refine w_bind (pick_f _ _) ?_
          | with_reducible refine w_bind gV_tt ?_
          | with_reducible refine w_bind gV_ff ?_
          | with_reducible refine w_bind gV_tf ?_
          | with_reducible refine w_bind gV_ft ?_
          | with_reducible refine w_bind gB_tf ?_
          | with_reducible refine w_bind gB_ft ?_
          | with_reducible refine w_gE_tf ?_
          | with_reducible refine w_gE_ft ?_
          | with_reducible refine w_gE_tt ?_
          | with_reducible refine w_gE_ff ?_
          | with_reducible refine w_onK_tf ?_
          | with_reducible refine w_onK_ft ?_
          | with_reducible refine w_onK_tt ?_
          | with_reducible refine w_onK_ff ?_)
        refine w_cond (fun hc => ?_) (fun hc => ?_)
        · have hc : (wCount w : Int) < 2305843009213693951 := by simpa using hc
          have ht := wT0_s (w := w) ⟨hr, hs, by omega⟩
          refine w_bind (bin_add_u (b := 1) (by omega)) ?_
          refine w_call (by assumption) (r01_pack (wCount w + 1) 1 (by omega) (by omega)) fun _ _ _ => ?_
          refine w_bind rfl ?_
          refine w_bind rfl ?_
          refine w_ret ⟨(), ?_, Holds.to (by assumption)⟩
          rw [ht]
          simp [optV]
          omega
        · have hc : ¬ (wCount w : Int) < 2305843009213693951 := by simpa using hc
          refine w_bind (eql_f ?_) ?_
          · omega
          repeat (first
            | with_reducible refine w_bind (pick_t _ _) ?_
            | with_reducible refine w_bind (pick_f _ _) ?_
            | with_reducible refine w_bind gV_tt ?_
            | with_reducible refine w_bind gV_ff ?_
            | with_reducible refine w_bind gV_tf ?_
            | with_reducible refine w_bind gV_ft ?_
            | with_reducible refine w_bind gB_tf ?_
            | with_reducible refine w_bind gB_ft ?_
            | with_reducible refine w_gE_tf ?_
            | with_reducible refine w_gE_ft ?_
            | with_reducible refine w_gE_tt ?_
            | with_reducible refine w_gE_ff ?_
            | with_reducible refine w_onK_tf ?_
            | with_reducible refine w_onK_ft ?_
            | with_reducible refine w_onK_tt ?_
            | with_reducible refine w_onK_ff ?_)
          refine w_cond (fun hc => by cases hc) (fun _ => ?_)
          refine w_bind (eql_f ?_) ?_
          · omega
          repeat (first
            | with_reducible refine w_bind (pick_t _ _) ?_
            | with_reducible refine w_bind (pick_f _ _) ?_
            | with_reducible refine w_bind gV_tt ?_
            | with_reducible refine w_bind gV_ff ?_
            | with_reducible refine w_bind gV_tf ?_
            | with_reducible refine w_bind gV_ft ?_
            | with_reducible refine w_bind gB_tf ?_
            | with_reducible refine w_bind gB_ft ?_
            | with_reducible refine w_gE_tf ?_
            | with_reducible refine w_gE_ft ?_
            | with_reducible refine w_gE_tt ?_
            | with_reducible refine w_gE_ff ?_
            | with_reducible refine w_onK_tf ?_
            | with_reducible refine w_onK_ft ?_
            | with_reducible refine w_onK_tt ?_
            | with_reducible refine w_onK_ff ?_)
          refine w_cond (fun hc => by cases hc) (fun _ => ?_)
          refine wp_eq (r01_Turned_k1_eq _ _ H1) ?_
          exact w_ret ⟨(), by rw [wT0_n (fun h => by have := h.2.2; omega)]; rfl, Holds.to (by assumption)⟩
    | 1, _ =>
      refine w_bind (eql_f ?_) ?_
      · omega
      repeat (first
        | with_reducible refine w_bind (pick_t _ _) ?_
        | with_reducible refine w_bind (pick_f _ _) ?_
        | with_reducible refine w_bind gV_tt ?_
        | with_reducible refine w_bind gV_ff ?_
        | with_reducible refine w_bind gV_tf ?_
        | with_reducible refine w_bind gV_ft ?_
        | with_reducible refine w_bind gB_tf ?_
        | with_reducible refine w_bind gB_ft ?_
        | with_reducible refine w_gE_tf ?_
        | with_reducible refine w_gE_ft ?_
        | with_reducible refine w_gE_tt ?_
        | with_reducible refine w_gE_ff ?_
        | with_reducible refine w_onK_tf ?_
        | with_reducible refine w_onK_ft ?_
        | with_reducible refine w_onK_tt ?_
        | with_reducible refine w_onK_ff ?_)
      refine w_cond (fun hc => by cases hc) (fun _ => ?_)
      refine w_bind (eql_t rfl) ?_
      repeat (first
        | with_reducible refine w_bind (pick_t _ _) ?_
        | with_reducible refine w_bind (pick_f _ _) ?_
        | with_reducible refine w_bind gV_tt ?_
        | with_reducible refine w_bind gV_ff ?_
        | with_reducible refine w_bind gV_tf ?_
        | with_reducible refine w_bind gV_ft ?_
        | with_reducible refine w_bind gB_tf ?_
        | with_reducible refine w_bind gB_ft ?_
        | with_reducible refine w_gE_tf ?_
        | with_reducible refine w_gE_ft ?_
        | with_reducible refine w_gE_tt ?_
        | with_reducible refine w_gE_ff ?_
        | with_reducible refine w_onK_tf ?_
        | with_reducible refine w_onK_ft ?_
        | with_reducible refine w_onK_tt ?_
        | with_reducible refine w_onK_ff ?_)
      refine w_bind (gB_y (bin_eql)) ?_
      repeat (first
        | with_reducible refine w_bind (pick_t _ _) ?_
        | with_reducible refine w_bind (pick_f _ _) ?_
        | with_reducible refine w_bind gV_tt ?_
        | with_reducible refine w_bind gV_ff ?_
        | with_reducible refine w_bind gV_tf ?_
        | with_reducible refine w_bind gV_ft ?_
        | with_reducible refine w_bind gB_tf ?_
        | with_reducible refine w_bind gB_ft ?_
        | with_reducible refine w_gE_tf ?_
        | with_reducible refine w_gE_ft ?_
        | with_reducible refine w_gE_tt ?_
        | with_reducible refine w_gE_ff ?_
        | with_reducible refine w_onK_tf ?_
        | with_reducible refine w_onK_ft ?_
        | with_reducible refine w_onK_tt ?_
        | with_reducible refine w_onK_ff ?_)
      refine w_cond (fun hc => ?_) (fun hc => ?_)
      · have hc : wState w = 1 := by simpa using hc
        refine w_call (by assumption) (r01_pack (wCount w) 0 (by omega) (by omega)) fun _ _ _ => ?_
        refine w_bind rfl ?_
        refine w_bind rfl ?_
        exact w_ret ⟨(), by rw [wT1_s hc]; simp [optV], Holds.to (by assumption)⟩
      · have hc : ¬ wState w = 1 := by simpa using hc
        refine w_bind (eql_f ?_) ?_
        · omega
        repeat (first
          | with_reducible refine w_bind (pick_t _ _) ?_
          | with_reducible refine w_bind (pick_f _ _) ?_
          | with_reducible refine w_bind gV_tt ?_
          | with_reducible refine w_bind gV_ff ?_
          | with_reducible refine w_bind gV_tf ?_
          | with_reducible refine w_bind gV_ft ?_
          | with_reducible refine w_bind gB_tf ?_
          | with_reducible refine w_bind gB_ft ?_
          | with_reducible refine w_gE_tf ?_
          | with_reducible refine w_gE_ft ?_
          | with_reducible refine w_gE_tt ?_
          | with_reducible refine w_gE_ff ?_
          | with_reducible refine w_onK_tf ?_
          | with_reducible refine w_onK_ft ?_
          | with_reducible refine w_onK_tt ?_
          | with_reducible refine w_onK_ff ?_)
        refine w_cond (fun hc => by cases hc) (fun _ => ?_)
        refine wp_eq (r01_Turned_k1_eq _ _ H1) ?_
        exact w_ret ⟨(), by rw [wT1_n hc]; rfl, Holds.to (by assumption)⟩
    | 2, _ =>
      refine w_bind (eql_f ?_) ?_
      · omega
      repeat (first
        | with_reducible refine w_bind (pick_t _ _) ?_
        | with_reducible refine w_bind (pick_f _ _) ?_
        | with_reducible refine w_bind gV_tt ?_
        | with_reducible refine w_bind gV_ff ?_
        | with_reducible refine w_bind gV_tf ?_
        | with_reducible refine w_bind gV_ft ?_
        | with_reducible refine w_bind gB_tf ?_
        | with_reducible refine w_bind gB_ft ?_
        | with_reducible refine w_gE_tf ?_
        | with_reducible refine w_gE_ft ?_
        | with_reducible refine w_gE_tt ?_
        | with_reducible refine w_gE_ff ?_
        | with_reducible refine w_onK_tf ?_
        | with_reducible refine w_onK_ft ?_
        | with_reducible refine w_onK_tt ?_
        | with_reducible refine w_onK_ff ?_)
      refine w_cond (fun hc => by cases hc) (fun _ => ?_)
      refine w_bind (eql_f ?_) ?_
      · omega
      repeat (first
        | with_reducible refine w_bind (pick_t _ _) ?_
        | with_reducible refine w_bind (pick_f _ _) ?_
        | with_reducible refine w_bind gV_tt ?_
        | with_reducible refine w_bind gV_ff ?_
        | with_reducible refine w_bind gV_tf ?_
        | with_reducible refine w_bind gV_ft ?_
        | with_reducible refine w_bind gB_tf ?_
        | with_reducible refine w_bind gB_ft ?_
        | with_reducible refine w_gE_tf ?_
        | with_reducible refine w_gE_ft ?_
        | with_reducible refine w_gE_tt ?_
        | with_reducible refine w_gE_ff ?_
        | with_reducible refine w_onK_tf ?_
        | with_reducible refine w_onK_ft ?_
        | with_reducible refine w_onK_tt ?_
        | with_reducible refine w_onK_ff ?_)
      refine w_cond (fun hc => by cases hc) (fun _ => ?_)
      refine w_bind (eql_t rfl) ?_
      repeat (first
        | with_reducible refine w_bind (pick_t _ _) ?_
        | with_reducible refine w_bind (pick_f _ _) ?_
        | with_reducible refine w_bind gV_tt ?_
        | with_reducible refine w_bind gV_ff ?_
        | with_reducible refine w_bind gV_tf ?_
        | with_reducible refine w_bind gV_ft ?_
        | with_reducible refine w_bind gB_tf ?_
        | with_reducible refine w_bind gB_ft ?_
        | with_reducible refine w_gE_tf ?_
        | with_reducible refine w_gE_ft ?_
        | with_reducible refine w_gE_tt ?_
        | with_reducible refine w_gE_ff ?_
        | with_reducible refine w_onK_tf ?_
        | with_reducible refine w_onK_ft ?_
        | with_reducible refine w_onK_tt ?_
        | with_reducible refine w_onK_ff ?_)
      refine w_bind (gB_y (bin_eql)) ?_
      repeat (first
        | with_reducible refine w_bind (pick_t _ _) ?_
        | with_reducible refine w_bind (pick_f _ _) ?_
        | with_reducible refine w_bind gV_tt ?_
        | with_reducible refine w_bind gV_ff ?_
        | with_reducible refine w_bind gV_tf ?_
        | with_reducible refine w_bind gV_ft ?_
        | with_reducible refine w_bind gB_tf ?_
        | with_reducible refine w_bind gB_ft ?_
        | with_reducible refine w_gE_tf ?_
        | with_reducible refine w_gE_ft ?_
        | with_reducible refine w_gE_tt ?_
        | with_reducible refine w_gE_ff ?_
        | with_reducible refine w_onK_tf ?_
        | with_reducible refine w_onK_ft ?_
        | with_reducible refine w_onK_tt ?_
        | with_reducible refine w_onK_ff ?_)
      refine w_cond (fun hc => ?_) (fun hc => ?_)
      · have hc : wState w = 0 := by simpa using hc
        refine w_call (by assumption) (r01_pack (wCount w) 2 (by omega) (by omega)) fun _ _ _ => ?_
        refine w_bind rfl ?_
        refine w_bind rfl ?_
        refine w_ret ⟨(), ?_, Holds.to (by assumption)⟩
        rw [wT2_s hc]
        simp [optV]
        omega
      · have hc : ¬ wState w = 0 := by simpa using hc
        refine wp_eq (r01_Turned_k1_eq _ _ H1) ?_
        exact w_ret ⟨(), by rw [wT2_n hc]; rfl, Holds.to (by assumption)⟩
/-! ### Places -/
theorem table_mutex (s : Int) : Sp n_table_mutex [vi s] emp (fun _ : Unit => encL (8, s, 0)) (fun _ => emp) := by
  refine sp_of fun R H h => ?_
  refine wp_of (fun r => table_mutex_of _ H) ?_
  repeat (first
    | refine w_newC (by assumption) fun _ _ _ => ?_
    | refine w_new (by assumption) fun _ _ _ => ?_
    | refine w_map (by assumption) fun _ _ _ => ?_
    | refine w_LdN (by assumption) ?_
    | refine w_ld (by assumption) end_nf rfl ?_
    | refine w_ld (by assumption) end_f0 rfl ?_
    | refine w_ldN (by assumption) end_nf ?_
    | refine w_ldN (by assumption) end_f0 ?_
    | refine w_ad end_nf ?_
    | refine w_ad end_f0 ?_
    | refine w_Ld1 (by assumption) rfl ?_
    | refine w_st (by assumption) end_nf rfl rfl fun _ _ => ?_
    | refine w_st (by assumption) end_f0 rfl rfl fun _ _ => ?_
    | refine w_St (by assumption) rfl rfl fun _ _ => ?_
    | refine w_S ?_
    | refine w_R (by assumption) fun _ _ _ => ?_
    | refine w_eqK_rfl ?_
    | refine w_eq1 (by assumption) (by assumption) rfl ?_
    | refine w_eqN (by assumption) (by assumption) rfl ?_
    | refine w_len ?_)
  exact w_ret ⟨(), rfl, Holds.to (by assumption)⟩
theorem table_slot (s i : Int) : Sp n_table_slot [vi s, vi i] emp (fun _ : Unit => encL (10, s, i)) (fun _ => emp) := by
  refine sp_of fun R H h => ?_
  refine wp_of (fun r => table_slot_of _ _ H) ?_
  repeat (first
    | refine w_newC (by assumption) fun _ _ _ => ?_
    | refine w_new (by assumption) fun _ _ _ => ?_
    | refine w_map (by assumption) fun _ _ _ => ?_
    | refine w_LdN (by assumption) ?_
    | refine w_ld (by assumption) end_nf rfl ?_
    | refine w_ld (by assumption) end_f0 rfl ?_
    | refine w_ldN (by assumption) end_nf ?_
    | refine w_ldN (by assumption) end_f0 ?_
    | refine w_ad end_nf ?_
    | refine w_ad end_f0 ?_
    | refine w_Ld1 (by assumption) rfl ?_
    | refine w_st (by assumption) end_nf rfl rfl fun _ _ => ?_
    | refine w_st (by assumption) end_f0 rfl rfl fun _ _ => ?_
    | refine w_St (by assumption) rfl rfl fun _ _ => ?_
    | refine w_S ?_
    | refine w_R (by assumption) fun _ _ _ => ?_
    | refine w_eqK_rfl ?_
    | refine w_eq1 (by assumption) (by assumption) rfl ?_
    | refine w_eqN (by assumption) (by assumption) rfl ?_
    | refine w_len ?_)
  exact w_ret ⟨(), rfl, Holds.to (by assumption)⟩
theorem r16_loc (k a b : Int) : Sp n_r16_Loc [vi k, vi a, vi b] emp (fun _ : Unit => encL (k, a, b)) (fun _ => emp) := by
  refine sp_of fun R H h => ?_
  refine wp_of (fun r => r16_Loc_of _ _ _ H) ?_
  repeat (first
    | refine w_newC (by assumption) fun _ _ _ => ?_
    | refine w_new (by assumption) fun _ _ _ => ?_
    | refine w_map (by assumption) fun _ _ _ => ?_
    | refine w_LdN (by assumption) ?_
    | refine w_ld (by assumption) end_nf rfl ?_
    | refine w_ld (by assumption) end_f0 rfl ?_
    | refine w_ldN (by assumption) end_nf ?_
    | refine w_ldN (by assumption) end_f0 ?_
    | refine w_ad end_nf ?_
    | refine w_ad end_f0 ?_
    | refine w_Ld1 (by assumption) rfl ?_
    | refine w_st (by assumption) end_nf rfl rfl fun _ _ => ?_
    | refine w_st (by assumption) end_f0 rfl rfl fun _ _ => ?_
    | refine w_St (by assumption) rfl rfl fun _ _ => ?_
    | refine w_S ?_
    | refine w_R (by assumption) fun _ _ _ => ?_
    | refine w_eqK_rfl ?_
    | refine w_eq1 (by assumption) (by assumption) rfl ?_
    | refine w_eqN (by assumption) (by assumption) rfl ?_
    | refine w_len ?_)
  exact w_ret ⟨(), rfl, Holds.to (by assumption)⟩

/-! ### The table -/
/-- Its memory, how many shards, how many slots of a shard. -/
def tab (t m : Nat) (sh sl : Nat) : SP := blk t (.cells false [vp m, vi sh, vi sl])
section
variable (t m : Nat) (sh sl : Nat) (μ : Mu) (who s i : Int)
theorem table_slots : Sp n_table_Table_Slots [vp t] (tab t m sh sl) (fun _ : Unit => vi sl) (fun _ => tab t m sh sl) := by
  refine sp_of fun R H h => ?_
  refine wp_of (fun r => table_Table_Slots_of _ H) ?_
  unfold tab at h ⊢
  repeat (first
    | refine w_newC (by assumption) fun _ _ _ => ?_
    | refine w_new (by assumption) fun _ _ _ => ?_
    | refine w_map (by assumption) fun _ _ _ => ?_
    | refine w_LdN (by assumption) ?_
    | refine w_ld (by assumption) end_nf rfl ?_
    | refine w_ld (by assumption) end_f0 rfl ?_
    | refine w_ldN (by assumption) end_nf ?_
    | refine w_ldN (by assumption) end_f0 ?_
    | refine w_ad end_nf ?_
    | refine w_ad end_f0 ?_
    | refine w_Ld1 (by assumption) rfl ?_
    | refine w_st (by assumption) end_nf rfl rfl fun _ _ => ?_
    | refine w_st (by assumption) end_f0 rfl rfl fun _ _ => ?_
    | refine w_St (by assumption) rfl rfl fun _ _ => ?_
    | refine w_S ?_
    | refine w_R (by assumption) fun _ _ _ => ?_
    | refine w_eqK_rfl ?_
    | refine w_eq1 (by assumption) (by assumption) rfl ?_
    | refine w_eqN (by assumption) (by assumption) rfl ?_
    | refine w_len ?_)
  exact w_ret ⟨(), rfl, Holds.to (by assumption)⟩
theorem table_lock (hE : μ.N < 1099511627000) : Sp n_table_Table_Lock [vp t, vi who, vi s] (tab t m sh sl * memP m μ) (fun _ : Unit => vb (decide (μ.V (8, s, 0) = 0))) (fun _ => tab t m sh sl * memP m (μ.swp who (8, s, 0) 0 1)) := by
  refine sp_of fun R H h => ?_
  refine wp_of (fun r => table_Table_Lock_of _ _ _ H) ?_
  unfold tab at h ⊢
  repeat (first
    | refine w_newC (by assumption) fun _ _ _ => ?_
    | refine w_new (by assumption) fun _ _ _ => ?_
    | refine w_map (by assumption) fun _ _ _ => ?_
    | refine w_LdN (by assumption) ?_
    | refine w_ld (by assumption) end_nf rfl ?_
    | refine w_ld (by assumption) end_f0 rfl ?_
    | refine w_ldN (by assumption) end_nf ?_
    | refine w_ldN (by assumption) end_f0 ?_
    | refine w_ad end_nf ?_
    | refine w_ad end_f0 ?_
    | refine w_Ld1 (by assumption) rfl ?_
    | refine w_st (by assumption) end_nf rfl rfl fun _ _ => ?_
    | refine w_st (by assumption) end_f0 rfl rfl fun _ _ => ?_
    | refine w_St (by assumption) rfl rfl fun _ _ => ?_
    | refine w_S ?_
    | refine w_R (by assumption) fun _ _ _ => ?_
    | refine w_eqK_rfl ?_
    | refine w_eq1 (by assumption) (by assumption) rfl ?_
    | refine w_eqN (by assumption) (by assumption) rfl ?_
    | refine w_len ?_)
  refine w_call (by assumption) (table_mutex s) fun _ _ _ => ?_
  repeat (first
    | refine w_newC (by assumption) fun _ _ _ => ?_
    | refine w_new (by assumption) fun _ _ _ => ?_
    | refine w_map (by assumption) fun _ _ _ => ?_
    | refine w_LdN (by assumption) ?_
    | refine w_ld (by assumption) end_nf rfl ?_
    | refine w_ld (by assumption) end_f0 rfl ?_
    | refine w_ldN (by assumption) end_nf ?_
    | refine w_ldN (by assumption) end_f0 ?_
    | refine w_ad end_nf ?_
    | refine w_ad end_f0 ?_
    | refine w_Ld1 (by assumption) rfl ?_
    | refine w_st (by assumption) end_nf rfl rfl fun _ _ => ?_
    | refine w_st (by assumption) end_f0 rfl rfl fun _ _ => ?_
    | refine w_St (by assumption) rfl rfl fun _ _ => ?_
    | refine w_S ?_
    | refine w_R (by assumption) fun _ _ _ => ?_
    | refine w_eqK_rfl ?_
    | refine w_eq1 (by assumption) (by assumption) rfl ?_
    | refine w_eqN (by assumption) (by assumption) rfl ?_
    | refine w_len ?_)
  refine w_call (by assumption) (p_swap m μ who (8, s, 0) 0 1 (by omega)) fun _ _ _ => ?_
  exact w_ret ⟨(), rfl, Holds.to (by assumption)⟩
theorem table_unlock (hE : μ.N < 1099511627000) : Sp n_table_Table_Unlock [vp t, vi who, vi s] (tab t m sh sl * memP m μ) (fun _ : Unit => .tuple #[]) (fun _ => tab t m sh sl * memP m ((μ.acc who 2 (8, s, 0)).put (8, s, 0) 0)) := by
  refine sp_of fun R H h => ?_
  refine wp_of (fun r => table_Table_Unlock_of _ _ _ H) ?_
  unfold tab at h ⊢
  repeat (first
    | refine w_newC (by assumption) fun _ _ _ => ?_
    | refine w_new (by assumption) fun _ _ _ => ?_
    | refine w_map (by assumption) fun _ _ _ => ?_
    | refine w_LdN (by assumption) ?_
    | refine w_ld (by assumption) end_nf rfl ?_
    | refine w_ld (by assumption) end_f0 rfl ?_
    | refine w_ldN (by assumption) end_nf ?_
    | refine w_ldN (by assumption) end_f0 ?_
    | refine w_ad end_nf ?_
    | refine w_ad end_f0 ?_
    | refine w_Ld1 (by assumption) rfl ?_
    | refine w_st (by assumption) end_nf rfl rfl fun _ _ => ?_
    | refine w_st (by assumption) end_f0 rfl rfl fun _ _ => ?_
    | refine w_St (by assumption) rfl rfl fun _ _ => ?_
    | refine w_S ?_
    | refine w_R (by assumption) fun _ _ _ => ?_
    | refine w_eqK_rfl ?_
    | refine w_eq1 (by assumption) (by assumption) rfl ?_
    | refine w_eqN (by assumption) (by assumption) rfl ?_
    | refine w_len ?_)
  refine w_call (by assumption) (table_mutex s) fun _ _ _ => ?_
  repeat (first
    | refine w_newC (by assumption) fun _ _ _ => ?_
    | refine w_new (by assumption) fun _ _ _ => ?_
    | refine w_map (by assumption) fun _ _ _ => ?_
    | refine w_LdN (by assumption) ?_
    | refine w_ld (by assumption) end_nf rfl ?_
    | refine w_ld (by assumption) end_f0 rfl ?_
    | refine w_ldN (by assumption) end_nf ?_
    | refine w_ldN (by assumption) end_f0 ?_
    | refine w_ad end_nf ?_
    | refine w_ad end_f0 ?_
    | refine w_Ld1 (by assumption) rfl ?_
    | refine w_st (by assumption) end_nf rfl rfl fun _ _ => ?_
    | refine w_st (by assumption) end_f0 rfl rfl fun _ _ => ?_
    | refine w_St (by assumption) rfl rfl fun _ _ => ?_
    | refine w_S ?_
    | refine w_R (by assumption) fun _ _ _ => ?_
    | refine w_eqK_rfl ?_
    | refine w_eq1 (by assumption) (by assumption) rfl ?_
    | refine w_eqN (by assumption) (by assumption) rfl ?_
    | refine w_len ?_)
  refine w_call (by assumption) (p_store m μ who (8, s, 0) 0 (by omega)) fun _ _ _ => ?_
  exact w_ret ⟨(), rfl, Holds.to (by assumption)⟩
theorem table_clear (hE : μ.N < 1099511627000) : Sp n_table_Table_Clear [vp t, vi who, vi s, vi i] (tab t m sh sl * memP m μ) (fun _ : Unit => .tuple #[]) (fun _ => tab t m sh sl * memP m ((μ.acc who 2 (10, s, i)).put (10, s, i) 0)) := by
  refine sp_of fun R H h => ?_
  refine wp_of (fun r => table_Table_Clear_of _ _ _ _ H) ?_
  unfold tab at h ⊢
  repeat (first
    | refine w_newC (by assumption) fun _ _ _ => ?_
    | refine w_new (by assumption) fun _ _ _ => ?_
    | refine w_map (by assumption) fun _ _ _ => ?_
    | refine w_LdN (by assumption) ?_
    | refine w_ld (by assumption) end_nf rfl ?_
    | refine w_ld (by assumption) end_f0 rfl ?_
    | refine w_ldN (by assumption) end_nf ?_
    | refine w_ldN (by assumption) end_f0 ?_
    | refine w_ad end_nf ?_
    | refine w_ad end_f0 ?_
    | refine w_Ld1 (by assumption) rfl ?_
    | refine w_st (by assumption) end_nf rfl rfl fun _ _ => ?_
    | refine w_st (by assumption) end_f0 rfl rfl fun _ _ => ?_
    | refine w_St (by assumption) rfl rfl fun _ _ => ?_
    | refine w_S ?_
    | refine w_R (by assumption) fun _ _ _ => ?_
    | refine w_eqK_rfl ?_
    | refine w_eq1 (by assumption) (by assumption) rfl ?_
    | refine w_eqN (by assumption) (by assumption) rfl ?_
    | refine w_len ?_)
  refine w_call (by assumption) (table_slot s i) fun _ _ _ => ?_
  repeat (first
    | refine w_newC (by assumption) fun _ _ _ => ?_
    | refine w_new (by assumption) fun _ _ _ => ?_
    | refine w_map (by assumption) fun _ _ _ => ?_
    | refine w_LdN (by assumption) ?_
    | refine w_ld (by assumption) end_nf rfl ?_
    | refine w_ld (by assumption) end_f0 rfl ?_
    | refine w_ldN (by assumption) end_nf ?_
    | refine w_ldN (by assumption) end_f0 ?_
    | refine w_ad end_nf ?_
    | refine w_ad end_f0 ?_
    | refine w_Ld1 (by assumption) rfl ?_
    | refine w_st (by assumption) end_nf rfl rfl fun _ _ => ?_
    | refine w_st (by assumption) end_f0 rfl rfl fun _ _ => ?_
    | refine w_St (by assumption) rfl rfl fun _ _ => ?_
    | refine w_S ?_
    | refine w_R (by assumption) fun _ _ _ => ?_
    | refine w_eqK_rfl ?_
    | refine w_eq1 (by assumption) (by assumption) rfl ?_
    | refine w_eqN (by assumption) (by assumption) rfl ?_
    | refine w_len ?_)
  refine w_call (by assumption) (p_store m μ who (10, s, i) 0 (by omega)) fun _ _ _ => ?_
  exact w_ret ⟨(), rfl, Holds.to (by assumption)⟩
theorem r16_lock (hE : μ.N < 1099511627000) : Sp n_r16_Table_Lock [vp t, vi who, vi s] (tab t m sh sl * memX m μ) (fun _ : Unit => vb (decide (μ.V (8, s, 0) = 0))) (fun _ => tab t m sh sl * memX m (μ.swp who (8, s, 0) 0 1)) := by
  refine sp_of fun R H h => ?_
  refine wp_of (fun r => r16_Table_Lock_of _ _ _ H) ?_
  unfold tab at h ⊢
  repeat (first
    | refine w_newC (by assumption) fun _ _ _ => ?_
    | refine w_new (by assumption) fun _ _ _ => ?_
    | refine w_map (by assumption) fun _ _ _ => ?_
    | refine w_LdN (by assumption) ?_
    | refine w_ld (by assumption) end_nf rfl ?_
    | refine w_ld (by assumption) end_f0 rfl ?_
    | refine w_ldN (by assumption) end_nf ?_
    | refine w_ldN (by assumption) end_f0 ?_
    | refine w_ad end_nf ?_
    | refine w_ad end_f0 ?_
    | refine w_Ld1 (by assumption) rfl ?_
    | refine w_st (by assumption) end_nf rfl rfl fun _ _ => ?_
    | refine w_st (by assumption) end_f0 rfl rfl fun _ _ => ?_
    | refine w_St (by assumption) rfl rfl fun _ _ => ?_
    | refine w_S ?_
    | refine w_R (by assumption) fun _ _ _ => ?_
    | refine w_eqK_rfl ?_
    | refine w_eq1 (by assumption) (by assumption) rfl ?_
    | refine w_eqN (by assumption) (by assumption) rfl ?_
    | refine w_len ?_)
  refine w_call (by assumption) (r16_loc 8 s 0) fun _ _ _ => ?_
  repeat (first
    | refine w_newC (by assumption) fun _ _ _ => ?_
    | refine w_new (by assumption) fun _ _ _ => ?_
    | refine w_map (by assumption) fun _ _ _ => ?_
    | refine w_LdN (by assumption) ?_
    | refine w_ld (by assumption) end_nf rfl ?_
    | refine w_ld (by assumption) end_f0 rfl ?_
    | refine w_ldN (by assumption) end_nf ?_
    | refine w_ldN (by assumption) end_f0 ?_
    | refine w_ad end_nf ?_
    | refine w_ad end_f0 ?_
    | refine w_Ld1 (by assumption) rfl ?_
    | refine w_st (by assumption) end_nf rfl rfl fun _ _ => ?_
    | refine w_st (by assumption) end_f0 rfl rfl fun _ _ => ?_
    | refine w_St (by assumption) rfl rfl fun _ _ => ?_
    | refine w_S ?_
    | refine w_R (by assumption) fun _ _ _ => ?_
    | refine w_eqK_rfl ?_
    | refine w_eq1 (by assumption) (by assumption) rfl ?_
    | refine w_eqN (by assumption) (by assumption) rfl ?_
    | refine w_len ?_)
  refine w_call (by assumption) (r16_swap m μ who (8, s, 0) 0 1 (by omega)) fun _ _ _ => ?_
  exact w_ret ⟨(), rfl, Holds.to (by assumption)⟩
theorem r16_unlock (hE : μ.N < 1099511627000) : Sp n_r16_Table_Unlock [vp t, vi who, vi s] (tab t m sh sl * memX m μ) (fun _ : Unit => .tuple #[]) (fun _ => tab t m sh sl * memX m ((μ.acc who 2 (8, s, 0)).put (8, s, 0) 0)) := by
  refine sp_of fun R H h => ?_
  refine wp_of (fun r => r16_Table_Unlock_of _ _ _ H) ?_
  unfold tab at h ⊢
  repeat (first
    | refine w_newC (by assumption) fun _ _ _ => ?_
    | refine w_new (by assumption) fun _ _ _ => ?_
    | refine w_map (by assumption) fun _ _ _ => ?_
    | refine w_LdN (by assumption) ?_
    | refine w_ld (by assumption) end_nf rfl ?_
    | refine w_ld (by assumption) end_f0 rfl ?_
    | refine w_ldN (by assumption) end_nf ?_
    | refine w_ldN (by assumption) end_f0 ?_
    | refine w_ad end_nf ?_
    | refine w_ad end_f0 ?_
    | refine w_Ld1 (by assumption) rfl ?_
    | refine w_st (by assumption) end_nf rfl rfl fun _ _ => ?_
    | refine w_st (by assumption) end_f0 rfl rfl fun _ _ => ?_
    | refine w_St (by assumption) rfl rfl fun _ _ => ?_
    | refine w_S ?_
    | refine w_R (by assumption) fun _ _ _ => ?_
    | refine w_eqK_rfl ?_
    | refine w_eq1 (by assumption) (by assumption) rfl ?_
    | refine w_eqN (by assumption) (by assumption) rfl ?_
    | refine w_len ?_)
  refine w_call (by assumption) (r16_loc 8 s 0) fun _ _ _ => ?_
  repeat (first
    | refine w_newC (by assumption) fun _ _ _ => ?_
    | refine w_new (by assumption) fun _ _ _ => ?_
    | refine w_map (by assumption) fun _ _ _ => ?_
    | refine w_LdN (by assumption) ?_
    | refine w_ld (by assumption) end_nf rfl ?_
    | refine w_ld (by assumption) end_f0 rfl ?_
    | refine w_ldN (by assumption) end_nf ?_
    | refine w_ldN (by assumption) end_f0 ?_
    | refine w_ad end_nf ?_
    | refine w_ad end_f0 ?_
    | refine w_Ld1 (by assumption) rfl ?_
    | refine w_st (by assumption) end_nf rfl rfl fun _ _ => ?_
    | refine w_st (by assumption) end_f0 rfl rfl fun _ _ => ?_
    | refine w_St (by assumption) rfl rfl fun _ _ => ?_
    | refine w_S ?_
    | refine w_R (by assumption) fun _ _ _ => ?_
    | refine w_eqK_rfl ?_
    | refine w_eq1 (by assumption) (by assumption) rfl ?_
    | refine w_eqN (by assumption) (by assumption) rfl ?_
    | refine w_len ?_)
  refine w_call (by assumption) (r16_store m μ who (8, s, 0) 0 (by omega)) fun _ _ _ => ?_
  exact w_ret ⟨(), rfl, Holds.to (by assumption)⟩
theorem r16_clear (hE : μ.N < 1099511627000) : Sp n_r16_Table_Clear [vp t, vi who, vi s, vi i] (tab t m sh sl * memX m μ) (fun _ : Unit => .tuple #[]) (fun _ => tab t m sh sl * memX m ((μ.acc who 2 (10, s, i)).put (10, s, i) 0)) := by
  refine sp_of fun R H h => ?_
  refine wp_of (fun r => r16_Table_Clear_of _ _ _ _ H) ?_
  unfold tab at h ⊢
  repeat (first
    | refine w_newC (by assumption) fun _ _ _ => ?_
    | refine w_new (by assumption) fun _ _ _ => ?_
    | refine w_map (by assumption) fun _ _ _ => ?_
    | refine w_LdN (by assumption) ?_
    | refine w_ld (by assumption) end_nf rfl ?_
    | refine w_ld (by assumption) end_f0 rfl ?_
    | refine w_ldN (by assumption) end_nf ?_
    | refine w_ldN (by assumption) end_f0 ?_
    | refine w_ad end_nf ?_
    | refine w_ad end_f0 ?_
    | refine w_Ld1 (by assumption) rfl ?_
    | refine w_st (by assumption) end_nf rfl rfl fun _ _ => ?_
    | refine w_st (by assumption) end_f0 rfl rfl fun _ _ => ?_
    | refine w_St (by assumption) rfl rfl fun _ _ => ?_
    | refine w_S ?_
    | refine w_R (by assumption) fun _ _ _ => ?_
    | refine w_eqK_rfl ?_
    | refine w_eq1 (by assumption) (by assumption) rfl ?_
    | refine w_eqN (by assumption) (by assumption) rfl ?_
    | refine w_len ?_)
  refine w_call (by assumption) (r16_loc 10 s i) fun _ _ _ => ?_
  repeat (first
    | refine w_newC (by assumption) fun _ _ _ => ?_
    | refine w_new (by assumption) fun _ _ _ => ?_
    | refine w_map (by assumption) fun _ _ _ => ?_
    | refine w_LdN (by assumption) ?_
    | refine w_ld (by assumption) end_nf rfl ?_
    | refine w_ld (by assumption) end_f0 rfl ?_
    | refine w_ldN (by assumption) end_nf ?_
    | refine w_ldN (by assumption) end_f0 ?_
    | refine w_ad end_nf ?_
    | refine w_ad end_f0 ?_
    | refine w_Ld1 (by assumption) rfl ?_
    | refine w_st (by assumption) end_nf rfl rfl fun _ _ => ?_
    | refine w_st (by assumption) end_f0 rfl rfl fun _ _ => ?_
    | refine w_St (by assumption) rfl rfl fun _ _ => ?_
    | refine w_S ?_
    | refine w_R (by assumption) fun _ _ _ => ?_
    | refine w_eqK_rfl ?_
    | refine w_eq1 (by assumption) (by assumption) rfl ?_
    | refine w_eqN (by assumption) (by assumption) rfl ?_
    | refine w_len ?_)
  refine w_call (by assumption) (r16_store m μ who (10, s, i) 0 (by omega)) fun _ _ _ => ?_
  exact w_ret ⟨(), rfl, Holds.to (by assumption)⟩
/-- What stands in a slot: whose, and which object; or nothing. -/
def slotV (v : Nat) : Value := if v = 0 then .tuple #[vi 0, vi 0, vb false] else .tuple #[vi ((v / 4294967296 : Nat) - 1), vi (v % 4294967296 : Nat), vb true]
theorem table_slotV (hE : μ.N < 1099511627000) (hV : μ.V (10, s, i) < 18446744073709551616) :
    Sp n_table_Table_Slot [vp t, vi who, vi s, vi i] (tab t m sh sl * memP m μ) (fun _ : Unit => slotV (μ.V (10, s, i))) (fun _ => tab t m sh sl * memP m (μ.acc who 1 (10, s, i))) := by
  refine sp_of fun R H h => ?_
  refine wp_of (fun r => table_Table_Slot_of _ _ _ _ H) ?_
  unfold tab at h ⊢
  repeat (first
    | refine w_newC (by assumption) fun _ _ _ => ?_
    | refine w_new (by assumption) fun _ _ _ => ?_
    | refine w_map (by assumption) fun _ _ _ => ?_
    | refine w_LdN (by assumption) ?_
    | refine w_ld (by assumption) end_nf rfl ?_
    | refine w_ld (by assumption) end_f0 rfl ?_
    | refine w_ldN (by assumption) end_nf ?_
    | refine w_ldN (by assumption) end_f0 ?_
    | refine w_ad end_nf ?_
    | refine w_ad end_f0 ?_
    | refine w_Ld1 (by assumption) rfl ?_
    | refine w_st (by assumption) end_nf rfl rfl fun _ _ => ?_
    | refine w_st (by assumption) end_f0 rfl rfl fun _ _ => ?_
    | refine w_St (by assumption) rfl rfl fun _ _ => ?_
    | refine w_S ?_
    | refine w_R (by assumption) fun _ _ _ => ?_
    | refine w_eqK_rfl ?_
    | refine w_eq1 (by assumption) (by assumption) rfl ?_
    | refine w_eqN (by assumption) (by assumption) rfl ?_
    | refine w_len ?_)
  refine w_call (by assumption) (table_slot s i) fun _ _ _ => ?_
  repeat (first
    | refine w_newC (by assumption) fun _ _ _ => ?_
    | refine w_new (by assumption) fun _ _ _ => ?_
    | refine w_map (by assumption) fun _ _ _ => ?_
    | refine w_LdN (by assumption) ?_
    | refine w_ld (by assumption) end_nf rfl ?_
    | refine w_ld (by assumption) end_f0 rfl ?_
    | refine w_ldN (by assumption) end_nf ?_
    | refine w_ldN (by assumption) end_f0 ?_
    | refine w_ad end_nf ?_
    | refine w_ad end_f0 ?_
    | refine w_Ld1 (by assumption) rfl ?_
    | refine w_st (by assumption) end_nf rfl rfl fun _ _ => ?_
    | refine w_st (by assumption) end_f0 rfl rfl fun _ _ => ?_
    | refine w_St (by assumption) rfl rfl fun _ _ => ?_
    | refine w_S ?_
    | refine w_R (by assumption) fun _ _ _ => ?_
    | refine w_eqK_rfl ?_
    | refine w_eq1 (by assumption) (by assumption) rfl ?_
    | refine w_eqN (by assumption) (by assumption) rfl ?_
    | refine w_len ?_)
  refine w_call (by assumption) (p_load m μ who (10, s, i) (by omega)) fun _ _ _ => ?_
  refine w_bind (eql_u (b := 0)) ?_
  refine w_cond (fun hc => ?_) (fun hc => ?_)
  · have hc : μ.V (10, s, i) = 0 := by simpa using hc
    refine w_ret ⟨(), by rw [slotV, if_pos hc], Holds.to (by assumption)⟩
  · have hc : ¬ μ.V (10, s, i) = 0 := by simpa using hc
    refine w_bind (shr32) ?_
    refine w_bind (conv_iu (by omega)) ?_
    refine w_bind (bin_sub_i (by omega) (by omega)) ?_
    refine w_bind (and32 hV) ?_
    refine w_bind (conv_iu (by omega)) ?_
    refine w_ret ⟨(), by rw [slotV, if_neg hc], Holds.to (by assumption)⟩
theorem r16_slotV (hE : μ.N < 1099511627000) (hV : μ.V (10, s, i) < 18446744073709551616) :
    Sp n_r16_Table_Slot [vp t, vi who, vi s, vi i] (tab t m sh sl * memX m μ) (fun _ : Unit => slotV (μ.V (10, s, i))) (fun _ => tab t m sh sl * memX m (μ.acc who 1 (10, s, i))) := by
  refine sp_of fun R H h => ?_
  refine wp_of (fun r => r16_Table_Slot_of _ _ _ _ H) ?_
  unfold tab at h ⊢
  repeat (first
    | refine w_newC (by assumption) fun _ _ _ => ?_
    | refine w_new (by assumption) fun _ _ _ => ?_
    | refine w_map (by assumption) fun _ _ _ => ?_
    | refine w_LdN (by assumption) ?_
    | refine w_ld (by assumption) end_nf rfl ?_
    | refine w_ld (by assumption) end_f0 rfl ?_
    | refine w_ldN (by assumption) end_nf ?_
    | refine w_ldN (by assumption) end_f0 ?_
    | refine w_ad end_nf ?_
    | refine w_ad end_f0 ?_
    | refine w_Ld1 (by assumption) rfl ?_
    | refine w_st (by assumption) end_nf rfl rfl fun _ _ => ?_
    | refine w_st (by assumption) end_f0 rfl rfl fun _ _ => ?_
    | refine w_St (by assumption) rfl rfl fun _ _ => ?_
    | refine w_S ?_
    | refine w_R (by assumption) fun _ _ _ => ?_
    | refine w_eqK_rfl ?_
    | refine w_eq1 (by assumption) (by assumption) rfl ?_
    | refine w_eqN (by assumption) (by assumption) rfl ?_
    | refine w_len ?_)
  refine w_call (by assumption) (r16_loc 10 s i) fun _ _ _ => ?_
  repeat (first
    | refine w_newC (by assumption) fun _ _ _ => ?_
    | refine w_new (by assumption) fun _ _ _ => ?_
    | refine w_map (by assumption) fun _ _ _ => ?_
    | refine w_LdN (by assumption) ?_
    | refine w_ld (by assumption) end_nf rfl ?_
    | refine w_ld (by assumption) end_f0 rfl ?_
    | refine w_ldN (by assumption) end_nf ?_
    | refine w_ldN (by assumption) end_f0 ?_
    | refine w_ad end_nf ?_
    | refine w_ad end_f0 ?_
    | refine w_Ld1 (by assumption) rfl ?_
    | refine w_st (by assumption) end_nf rfl rfl fun _ _ => ?_
    | refine w_st (by assumption) end_f0 rfl rfl fun _ _ => ?_
    | refine w_St (by assumption) rfl rfl fun _ _ => ?_
    | refine w_S ?_
    | refine w_R (by assumption) fun _ _ _ => ?_
    | refine w_eqK_rfl ?_
    | refine w_eq1 (by assumption) (by assumption) rfl ?_
    | refine w_eqN (by assumption) (by assumption) rfl ?_
    | refine w_len ?_)
  refine w_call (by assumption) (r16_load m μ who (10, s, i) (by omega)) fun _ _ _ => ?_
  refine w_bind (eql_u (b := 0)) ?_
  refine w_cond (fun hc => ?_) (fun hc => ?_)
  · have hc : μ.V (10, s, i) = 0 := by simpa using hc
    refine w_ret ⟨(), by rw [slotV, if_pos hc], Holds.to (by assumption)⟩
  · have hc : ¬ μ.V (10, s, i) = 0 := by simpa using hc
    refine w_bind (quo32 hV) ?_
    refine w_bind (conv_iu (by omega)) ?_
    refine w_bind (bin_sub_i (by omega) (by omega)) ?_
    refine w_bind (rem32) ?_
    refine w_bind (conv_iu (by omega)) ?_
    refine w_ret ⟨(), by rw [slotV, if_neg hc], Holds.to (by assumption)⟩
end
end Go.Proofs.YtodpbobjmkhcfaaGreatDoor.Gst
