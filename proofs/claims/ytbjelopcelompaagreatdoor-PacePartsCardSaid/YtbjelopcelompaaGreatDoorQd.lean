/- Windows of picks, whole: what the program tells, and the reference, is one and the same. -/
import Derived.Test.YtbjelopcelompaaGreatDoorQc
namespace Go.Proofs.YtbjelopcelompaaGreatDoor.Gst
open Go Go.RowKit
set_option linter.unusedSimpArgs false
set_option linter.unusedVariables false
set_option maxHeartbeats 1000000

theorem pace_slides {P : SP} {s : Value} {l : List Int} [r : Rd P s 1 encI l] (hl : l.length < 1099511627776) (w mb n k : Nat) (hk : 1 ≤ k) (hkl : k < 1099511627776) (hn : n < 1099511627776) :
    Sp n_pace_slide [s, vi k, .func (.func n_pace_window_turn) #[vp w] #[], .func (.func n_pace_window_full) #[vp w] #[]] (winP w mb n (manyOf l n 0 0) * P) (fun b : Bool => vb b)
      (fun b => pu (b = true ↔ ∀ j : Nat, j < l.length → k ≤ j + 1 → ∀ w : Nat, w < n → (w : Int) ∈ win l (j + 1 - k) (j + 1)) * P) := by
  refine sp_of fun R H h => ?_
  refine wp_of (fun r => pace_slide_of _ _ _ _ H) ?_
  refine wp_eq (pace_slide_k0_eq _ _ _ _ _ H) ?_
  refine w_rlen (l := l) h ?_
  refine wp_eq (pace_slide_k2_eq _ _ _ _ _ _ _ _ H) ?_
  refine wp.mono (slide_loop hl w mb n k hk hkl hn (vb false) (R := R) l.length 0 H (by omega) (by rw [Nat.zero_sub]; exact h)) ?_
  rintro v' H' ⟨b, rfl, hb, hh⟩
  refine ⟨b, rfl, ?_⟩
  rw [sep_assoc]
  refine Holds.pu.2 ⟨?_, hh⟩
  rw [hb]
  exact ⟨fun h j => h j (by omega), fun h j _ => h j⟩
/-- The program's. -/
theorem pace_even {P : SP} {s : Value} {l : List Int} [r : Rd P s 1 encI l] (hl : l.length < 1099511627776) (n k : Int) : Sp n_pace_Even [s, vi n, vi k] P (fun _ : Unit => vb (evenB l n k)) (fun _ => P) := by
  refine sp_of fun R H h => ?_
  refine wp_of (fun r => pace_Even_of _ _ _ H) ?_
  refine wp_eq (pace_Even_k0_eq _ _ _ _ H) ?_
  refine w_rlen (l := l) h ?_
  by_cases h1 : (l.length : Int) < k
  · refine w_bind (lss_t h1) ?_
    repeat (first
      | with_reducible refine w_bind (pick_t _ _) ?_
      | with_reducible refine w_bind (pick_f _ _) ?_
      | with_reducible refine w_bind gV_tt ?_
      | with_reducible refine w_bind gV_ff ?_
      | with_reducible refine w_bind gV_tf ?_
      | with_reducible refine w_bind gV_ft ?_
      | with_reducible refine w_bind gB_tf ?_
      | with_reducible refine w_bind gB_ft ?_
      | with_reducible refine w_gE_tf ?_
      | with_reducible refine w_gE_ft ?_
      | with_reducible refine w_gE_tt ?_
      | with_reducible refine w_gE_ff ?_
      | with_reducible refine w_onK_tf ?_
      | with_reducible refine w_onK_ft ?_
      | with_reducible refine w_onK_tt ?_
      | with_reducible refine w_onK_ff ?_
      | with_reducible refine w_gld_tt ?_
      | with_reducible refine w_gld_ff ?_
      | with_reducible refine w_gld_tf ?_
      | with_reducible refine w_gld_ft ?_
      | with_reducible refine w_gldN_tt ?_
      | with_reducible refine w_gldN_ff ?_
      | with_reducible refine w_gldN_tf ?_
      | with_reducible refine w_gldN_ft ?_
      | with_reducible refine w_gB_tt ?_
      | with_reducible refine w_gB_ff ?_
      | with_reducible refine w_bind un_not ?_
      | with_reducible refine w_cond_t ?_
      | with_reducible refine w_cond_f ?_
      | with_reducible refine w_bind gV_u ?_
      | with_reducible refine w_bind gB_u ?_
      | with_reducible refine w_gld_u ?_)
    rw [evenB_of (b := true) ⟨fun _ => .inr ⟨by omega, fun i hi => by omega⟩, fun _ => rfl⟩]
    exact w_ret ⟨(), rfl, Holds.to (by assumption)⟩
  refine w_bind (lss_f h1) ?_
  repeat (first
    | with_reducible refine w_bind (pick_t _ _) ?_
    | with_reducible refine w_bind (pick_f _ _) ?_
    | with_reducible refine w_bind gV_tt ?_
    | with_reducible refine w_bind gV_ff ?_
    | with_reducible refine w_bind gV_tf ?_
    | with_reducible refine w_bind gV_ft ?_
    | with_reducible refine w_bind gB_tf ?_
    | with_reducible refine w_bind gB_ft ?_
    | with_reducible refine w_gE_tf ?_
    | with_reducible refine w_gE_ft ?_
    | with_reducible refine w_gE_tt ?_
    | with_reducible refine w_gE_ff ?_
    | with_reducible refine w_onK_tf ?_
    | with_reducible refine w_onK_ft ?_
    | with_reducible refine w_onK_tt ?_
    | with_reducible refine w_onK_ff ?_
    | with_reducible refine w_gld_tt ?_
    | with_reducible refine w_gld_ff ?_
    | with_reducible refine w_gld_tf ?_
    | with_reducible refine w_gld_ft ?_
    | with_reducible refine w_gldN_tt ?_
    | with_reducible refine w_gldN_ff ?_
    | with_reducible refine w_gldN_tf ?_
    | with_reducible refine w_gldN_ft ?_
    | with_reducible refine w_gB_tt ?_
    | with_reducible refine w_gB_ff ?_
    | with_reducible refine w_bind un_not ?_
    | with_reducible refine w_cond_t ?_
    | with_reducible refine w_cond_f ?_
    | with_reducible refine w_bind gV_u ?_
    | with_reducible refine w_bind gB_u ?_
    | with_reducible refine w_gld_u ?_)
  by_cases h2 : n < 1
  · refine w_bind (lss_t h2) ?_
    repeat (first
      | with_reducible refine w_bind (pick_t _ _) ?_
      | with_reducible refine w_bind (pick_f _ _) ?_
      | with_reducible refine w_bind gV_tt ?_
      | with_reducible refine w_bind gV_ff ?_
      | with_reducible refine w_bind gV_tf ?_
      | with_reducible refine w_bind gV_ft ?_
      | with_reducible refine w_bind gB_tf ?_
      | with_reducible refine w_bind gB_ft ?_
      | with_reducible refine w_gE_tf ?_
      | with_reducible refine w_gE_ft ?_
      | with_reducible refine w_gE_tt ?_
      | with_reducible refine w_gE_ff ?_
      | with_reducible refine w_onK_tf ?_
      | with_reducible refine w_onK_ft ?_
      | with_reducible refine w_onK_tt ?_
      | with_reducible refine w_onK_ff ?_
      | with_reducible refine w_gld_tt ?_
      | with_reducible refine w_gld_ff ?_
      | with_reducible refine w_gld_tf ?_
      | with_reducible refine w_gld_ft ?_
      | with_reducible refine w_gldN_tt ?_
      | with_reducible refine w_gldN_ff ?_
      | with_reducible refine w_gldN_tf ?_
      | with_reducible refine w_gldN_ft ?_
      | with_reducible refine w_gB_tt ?_
      | with_reducible refine w_gB_ff ?_
      | with_reducible refine w_bind un_not ?_
      | with_reducible refine w_cond_t ?_
      | with_reducible refine w_cond_f ?_
      | with_reducible refine w_bind gV_u ?_
      | with_reducible refine w_bind gB_u ?_
      | with_reducible refine w_gld_u ?_)
    rw [evenB_of (b := true) ⟨fun _ => .inl h2, fun _ => rfl⟩]
    exact w_ret ⟨(), rfl, Holds.to (by assumption)⟩
  refine w_bind (lss_f h2) ?_
  repeat (first
    | with_reducible refine w_bind (pick_t _ _) ?_
    | with_reducible refine w_bind (pick_f _ _) ?_
    | with_reducible refine w_bind gV_tt ?_
    | with_reducible refine w_bind gV_ff ?_
    | with_reducible refine w_bind gV_tf ?_
    | with_reducible refine w_bind gV_ft ?_
    | with_reducible refine w_bind gB_tf ?_
    | with_reducible refine w_bind gB_ft ?_
    | with_reducible refine w_gE_tf ?_
    | with_reducible refine w_gE_ft ?_
    | with_reducible refine w_gE_tt ?_
    | with_reducible refine w_gE_ff ?_
    | with_reducible refine w_onK_tf ?_
    | with_reducible refine w_onK_ft ?_
    | with_reducible refine w_onK_tt ?_
    | with_reducible refine w_onK_ff ?_
    | with_reducible refine w_gld_tt ?_
    | with_reducible refine w_gld_ff ?_
    | with_reducible refine w_gld_tf ?_
    | with_reducible refine w_gld_ft ?_
    | with_reducible refine w_gldN_tt ?_
    | with_reducible refine w_gldN_ff ?_
    | with_reducible refine w_gldN_tf ?_
    | with_reducible refine w_gldN_ft ?_
    | with_reducible refine w_gB_tt ?_
    | with_reducible refine w_gB_ff ?_
    | with_reducible refine w_bind un_not ?_
    | with_reducible refine w_cond_t ?_
    | with_reducible refine w_cond_f ?_
    | with_reducible refine w_bind gV_u ?_
    | with_reducible refine w_bind gB_u ?_
    | with_reducible refine w_gld_u ?_)
  by_cases h3 : k < 1
  · refine w_bind (lss_t h3) ?_
    repeat (first
      | with_reducible refine w_bind (pick_t _ _) ?_
      | with_reducible refine w_bind (pick_f _ _) ?_
      | with_reducible refine w_bind gV_tt ?_
      | with_reducible refine w_bind gV_ff ?_
      | with_reducible refine w_bind gV_tf ?_
      | with_reducible refine w_bind gV_ft ?_
      | with_reducible refine w_bind gB_tf ?_
      | with_reducible refine w_bind gB_ft ?_
      | with_reducible refine w_gE_tf ?_
      | with_reducible refine w_gE_ft ?_
      | with_reducible refine w_gE_tt ?_
      | with_reducible refine w_gE_ff ?_
      | with_reducible refine w_onK_tf ?_
      | with_reducible refine w_onK_ft ?_
      | with_reducible refine w_onK_tt ?_
      | with_reducible refine w_onK_ff ?_
      | with_reducible refine w_gld_tt ?_
      | with_reducible refine w_gld_ff ?_
      | with_reducible refine w_gld_tf ?_
      | with_reducible refine w_gld_ft ?_
      | with_reducible refine w_gldN_tt ?_
      | with_reducible refine w_gldN_ff ?_
      | with_reducible refine w_gldN_tf ?_
      | with_reducible refine w_gldN_ft ?_
      | with_reducible refine w_gB_tt ?_
      | with_reducible refine w_gB_ff ?_
      | with_reducible refine w_bind un_not ?_
      | with_reducible refine w_cond_t ?_
      | with_reducible refine w_cond_f ?_
      | with_reducible refine w_bind gV_u ?_
      | with_reducible refine w_bind gB_u ?_
      | with_reducible refine w_gld_u ?_)
    rw [evenB_of (b := false) ⟨fun h => (by cases h), fun h => absurd h (by rintro (h | ⟨h, _⟩) <;> omega)⟩]
    exact w_ret ⟨(), rfl, Holds.to (by assumption)⟩
  refine w_bind (lss_f h3) ?_
  repeat (first
    | with_reducible refine w_bind (pick_t _ _) ?_
    | with_reducible refine w_bind (pick_f _ _) ?_
    | with_reducible refine w_bind gV_tt ?_
    | with_reducible refine w_bind gV_ff ?_
    | with_reducible refine w_bind gV_tf ?_
    | with_reducible refine w_bind gV_ft ?_
    | with_reducible refine w_bind gB_tf ?_
    | with_reducible refine w_bind gB_ft ?_
    | with_reducible refine w_gE_tf ?_
    | with_reducible refine w_gE_ft ?_
    | with_reducible refine w_gE_tt ?_
    | with_reducible refine w_gE_ff ?_
    | with_reducible refine w_onK_tf ?_
    | with_reducible refine w_onK_ft ?_
    | with_reducible refine w_onK_tt ?_
    | with_reducible refine w_onK_ff ?_
    | with_reducible refine w_gld_tt ?_
    | with_reducible refine w_gld_ff ?_
    | with_reducible refine w_gld_tf ?_
    | with_reducible refine w_gld_ft ?_
    | with_reducible refine w_gldN_tt ?_
    | with_reducible refine w_gldN_ff ?_
    | with_reducible refine w_gldN_tf ?_
    | with_reducible refine w_gldN_ft ?_
    | with_reducible refine w_gB_tt ?_
    | with_reducible refine w_gB_ff ?_
    | with_reducible refine w_bind un_not ?_
    | with_reducible refine w_cond_t ?_
    | with_reducible refine w_cond_f ?_
    | with_reducible refine w_bind gV_u ?_
    | with_reducible refine w_bind gB_u ?_
    | with_reducible refine w_gld_u ?_)
  by_cases h4 : k < n
  · refine w_bind (lss_t h4) ?_
    repeat (first
      | with_reducible refine w_bind (pick_t _ _) ?_
      | with_reducible refine w_bind (pick_f _ _) ?_
      | with_reducible refine w_bind gV_tt ?_
      | with_reducible refine w_bind gV_ff ?_
      | with_reducible refine w_bind gV_tf ?_
      | with_reducible refine w_bind gV_ft ?_
      | with_reducible refine w_bind gB_tf ?_
      | with_reducible refine w_bind gB_ft ?_
      | with_reducible refine w_gE_tf ?_
      | with_reducible refine w_gE_ft ?_
      | with_reducible refine w_gE_tt ?_
      | with_reducible refine w_gE_ff ?_
      | with_reducible refine w_onK_tf ?_
      | with_reducible refine w_onK_ft ?_
      | with_reducible refine w_onK_tt ?_
      | with_reducible refine w_onK_ff ?_
      | with_reducible refine w_gld_tt ?_
      | with_reducible refine w_gld_ff ?_
      | with_reducible refine w_gld_tf ?_
      | with_reducible refine w_gld_ft ?_
      | with_reducible refine w_gldN_tt ?_
      | with_reducible refine w_gldN_ff ?_
      | with_reducible refine w_gldN_tf ?_
      | with_reducible refine w_gldN_ft ?_
      | with_reducible refine w_gB_tt ?_
      | with_reducible refine w_gB_ff ?_
      | with_reducible refine w_bind un_not ?_
      | with_reducible refine w_cond_t ?_
      | with_reducible refine w_cond_f ?_
      | with_reducible refine w_bind gV_u ?_
      | with_reducible refine w_bind gB_u ?_
      | with_reducible refine w_gld_u ?_)
    rw [evenB_of (b := false) ⟨fun h => (by cases h), fun h => absurd h (even_small (by omega) h4 (by omega))⟩]
    exact w_ret ⟨(), rfl, Holds.to (by assumption)⟩
  refine w_bind (lss_f h4) ?_
  repeat (first
    | with_reducible refine w_bind (pick_t _ _) ?_
    | with_reducible refine w_bind (pick_f _ _) ?_
    | with_reducible refine w_bind gV_tt ?_
    | with_reducible refine w_bind gV_ff ?_
    | with_reducible refine w_bind gV_tf ?_
    | with_reducible refine w_bind gV_ft ?_
    | with_reducible refine w_bind gB_tf ?_
    | with_reducible refine w_bind gB_ft ?_
    | with_reducible refine w_gE_tf ?_
    | with_reducible refine w_gE_ft ?_
    | with_reducible refine w_gE_tt ?_
    | with_reducible refine w_gE_ff ?_
    | with_reducible refine w_onK_tf ?_
    | with_reducible refine w_onK_ft ?_
    | with_reducible refine w_onK_tt ?_
    | with_reducible refine w_onK_ff ?_
    | with_reducible refine w_gld_tt ?_
    | with_reducible refine w_gld_ff ?_
    | with_reducible refine w_gld_tf ?_
    | with_reducible refine w_gld_ft ?_
    | with_reducible refine w_gldN_tt ?_
    | with_reducible refine w_gldN_ff ?_
    | with_reducible refine w_gldN_tf ?_
    | with_reducible refine w_gldN_ft ?_
    | with_reducible refine w_gB_tt ?_
    | with_reducible refine w_gB_ff ?_
    | with_reducible refine w_bind un_not ?_
    | with_reducible refine w_cond_t ?_
    | with_reducible refine w_cond_f ?_
    | with_reducible refine w_bind gV_u ?_
    | with_reducible refine w_bind gB_u ?_
    | with_reducible refine w_gld_u ?_)
  refine wp_eq (pace_Even_k1_eq _ _ _ _ H) ?_
  obtain ⟨n', rfl⟩ : ∃ m : Nat, n = m := ⟨n.toNat, by omega⟩
  obtain ⟨k', rfl⟩ : ∃ m : Nat, k = m := ⟨k.toNat, by omega⟩
  refine w_make (enc := encI) (0 : Int) h rfl (by unfold room; omega) (by omega) fun mb H1 h1' => ?_
  refine w_S ?_
  refine w_newC h1' fun wb H2 h2' => ?_
  have h3' : Holds (winP wb mb n' (manyOf l n' 0 0) * P * R) H2 := by
    unfold winP
    rw [manyOf_none]
    exact h2'.to
  obtain ⟨b, H3, e, h4'⟩ := pace_slides (P := P) (s := s) hl wb mb n' k' (by omega) (by omega) (by omega) R H2 h3'
  rw [e]
  rw [sep_assoc, Holds.pu] at h4'
  rw [evenB_of (b := b)]
  · exact w_ret ⟨(), rfl, h4'.2⟩
  · rw [h4'.1, even_slide (by omega) (by omega)]
    simp only [Int.toNat_natCast]

/-! ### The reference's windows -/
section
variable {P R : SP} {s : Value} {l : List Int} {Q : Value → AH → Prop}
theorem r27_inner [r : Rd P s 1 encI l] (n : Int) (k i w : Nat) (x6 : Value) {H : AH} (h : Holds (P * R) H) (hk : i + k ≤ l.length) (hl : l.length < 1099511627776)
    (hQ : ∀ b : Bool, (b = true ↔ (w : Int) ∈ win l i (i + k)) → wp (r27_Even_k17 s (vi n) (vi k) x6 (vi i) (vi w) (vb b) H) Q) :
    ∀ (d j : Nat) (b : Bool), i ≤ j → j + d = i + k → (b = true ↔ (w : Int) ∈ win l i j) → wp (r27_Even_k21 s (vi n) (vi k) x6 (vi i) (vi w) (vb b) (vi j) H) Q := by
  intro d
  induction d with
  | zero =>
    intro j b hij hj hb
    refine wp_eq (r27_Even_k21_eq _ _ _ _ _ _ _ _ H) ?_
    refine w_bind (bin_add_i (by omega) (by omega)) ?_
    refine w_bind (lss_f (by omega)) ?_
    repeat (first
      | with_reducible refine w_bind (pick_t _ _) ?_
      | with_reducible refine w_bind (pick_f _ _) ?_
      | with_reducible refine w_bind gV_tt ?_
      | with_reducible refine w_bind gV_ff ?_
      | with_reducible refine w_bind gV_tf ?_
      | with_reducible refine w_bind gV_ft ?_
      | with_reducible refine w_bind gB_tf ?_
      | with_reducible refine w_bind gB_ft ?_
      | with_reducible refine w_gE_tf ?_
      | with_reducible refine w_gE_ft ?_
      | with_reducible refine w_gE_tt ?_
      | with_reducible refine w_gE_ff ?_
      | with_reducible refine w_onK_tf ?_
      | with_reducible refine w_onK_ft ?_
      | with_reducible refine w_onK_tt ?_
      | with_reducible refine w_onK_ff ?_
      | with_reducible refine w_gld_tt ?_
      | with_reducible refine w_gld_ff ?_
      | with_reducible refine w_gld_tf ?_
      | with_reducible refine w_gld_ft ?_
      | with_reducible refine w_gldN_tt ?_
      | with_reducible refine w_gldN_ff ?_
      | with_reducible refine w_gldN_tf ?_
      | with_reducible refine w_gldN_ft ?_
      | with_reducible refine w_gB_tt ?_
      | with_reducible refine w_gB_ff ?_
      | with_reducible refine w_bind un_not ?_
      | with_reducible refine w_cond_t ?_
      | with_reducible refine w_cond_f ?_
      | with_reducible refine w_bind gV_u ?_
      | with_reducible refine w_bind gB_u ?_
      | with_reducible refine w_gld_u ?_)
    refine wp_eq (r27_Even_e20_4_eq _ _ _ _ _ _ _ H) ?_
    have : j = i + k := by omega
    subst this
    exact hQ b hb
  | succ d ih =>
    intro j b hij hj hb
    have hjl : j < l.length := by omega
    refine wp_eq (r27_Even_k21_eq _ _ _ _ _ _ _ _ H) ?_
    refine w_bind (bin_add_i (by omega) (by omega)) ?_
    refine w_bind (lss_t (by omega)) ?_
    repeat (first
      | with_reducible refine w_bind (pick_t _ _) ?_
      | with_reducible refine w_bind (pick_f _ _) ?_
      | with_reducible refine w_bind gV_tt ?_
      | with_reducible refine w_bind gV_ff ?_
      | with_reducible refine w_bind gV_tf ?_
      | with_reducible refine w_bind gV_ft ?_
      | with_reducible refine w_bind gB_tf ?_
      | with_reducible refine w_bind gB_ft ?_
      | with_reducible refine w_gE_tf ?_
      | with_reducible refine w_gE_ft ?_
      | with_reducible refine w_gE_tt ?_
      | with_reducible refine w_gE_ff ?_
      | with_reducible refine w_onK_tf ?_
      | with_reducible refine w_onK_ft ?_
      | with_reducible refine w_onK_tt ?_
      | with_reducible refine w_onK_ff ?_
      | with_reducible refine w_gld_tt ?_
      | with_reducible refine w_gld_ff ?_
      | with_reducible refine w_gld_tf ?_
      | with_reducible refine w_gld_ft ?_
      | with_reducible refine w_gldN_tt ?_
      | with_reducible refine w_gldN_ff ?_
      | with_reducible refine w_gldN_tf ?_
      | with_reducible refine w_gldN_ft ?_
      | with_reducible refine w_gB_tt ?_
      | with_reducible refine w_gB_ff ?_
      | with_reducible refine w_bind un_not ?_
      | with_reducible refine w_cond_t ?_
      | with_reducible refine w_cond_f ?_
      | with_reducible refine w_bind gV_u ?_
      | with_reducible refine w_bind gB_u ?_
      | with_reducible refine w_gld_u ?_)
    refine wp_eq (r27_Even_k22_eq _ _ _ _ _ _ _ _ H) ?_
    have next : ∀ b' : Bool, (b' = true ↔ (w : Int) ∈ win l i (j + 1)) → wp (r27_Even_k23 s (vi n) (vi k) x6 (vi i) (vi w) (vb b') (vi j) H) Q := by
      intro b' hb'
      refine wp_eq (r27_Even_k23_eq _ _ _ _ _ _ _ _ H) ?_
      refine w_bind (bin_add_i (by omega) (by omega)) ?_
      exact ih (j + 1) b' (by omega) (by omega) hb'
    have hs := win_snoc (l := l) hij hjl
    cases b with
    | true =>
      repeat (first
        | with_reducible refine w_bind (pick_t _ _) ?_
        | with_reducible refine w_bind (pick_f _ _) ?_
        | with_reducible refine w_bind gV_tt ?_
        | with_reducible refine w_bind gV_ff ?_
        | with_reducible refine w_bind gV_tf ?_
        | with_reducible refine w_bind gV_ft ?_
        | with_reducible refine w_bind gB_tf ?_
        | with_reducible refine w_bind gB_ft ?_
        | with_reducible refine w_gE_tf ?_
        | with_reducible refine w_gE_ft ?_
        | with_reducible refine w_gE_tt ?_
        | with_reducible refine w_gE_ff ?_
        | with_reducible refine w_onK_tf ?_
        | with_reducible refine w_onK_ft ?_
        | with_reducible refine w_onK_tt ?_
        | with_reducible refine w_onK_ff ?_
        | with_reducible refine w_gld_tt ?_
        | with_reducible refine w_gld_ff ?_
        | with_reducible refine w_gld_tf ?_
        | with_reducible refine w_gld_ft ?_
        | with_reducible refine w_gldN_tt ?_
        | with_reducible refine w_gldN_ff ?_
        | with_reducible refine w_gldN_tf ?_
        | with_reducible refine w_gldN_ft ?_
        | with_reducible refine w_gB_tt ?_
        | with_reducible refine w_gB_ff ?_
        | with_reducible refine w_bind un_not ?_
        | with_reducible refine w_cond_t ?_
        | with_reducible refine w_cond_f ?_
        | with_reducible refine w_bind gV_u ?_
        | with_reducible refine w_bind gB_u ?_
        | with_reducible refine w_gld_u ?_)
      exact next true ⟨fun _ => by rw [hs, List.mem_append]; exact .inl (hb.1 rfl), fun _ => rfl⟩
    | false =>
      repeat (first
        | with_reducible refine w_bind (pick_t _ _) ?_
        | with_reducible refine w_bind (pick_f _ _) ?_
        | with_reducible refine w_bind gV_tt ?_
        | with_reducible refine w_bind gV_ff ?_
        | with_reducible refine w_bind gV_tf ?_
        | with_reducible refine w_bind gV_ft ?_
        | with_reducible refine w_bind gB_tf ?_
        | with_reducible refine w_bind gB_ft ?_
        | with_reducible refine w_gE_tf ?_
        | with_reducible refine w_gE_ft ?_
        | with_reducible refine w_gE_tt ?_
        | with_reducible refine w_gE_ff ?_
        | with_reducible refine w_onK_tf ?_
        | with_reducible refine w_onK_ft ?_
        | with_reducible refine w_onK_tt ?_
        | with_reducible refine w_onK_ff ?_
        | with_reducible refine w_gld_tt ?_
        | with_reducible refine w_gld_ff ?_
        | with_reducible refine w_gld_tf ?_
        | with_reducible refine w_gld_ft ?_
        | with_reducible refine w_gldN_tt ?_
        | with_reducible refine w_gldN_ff ?_
        | with_reducible refine w_gldN_tf ?_
        | with_reducible refine w_gldN_ft ?_
        | with_reducible refine w_gB_tt ?_
        | with_reducible refine w_gB_ff ?_
        | with_reducible refine w_bind un_not ?_
        | with_reducible refine w_cond_t ?_
        | with_reducible refine w_cond_f ?_
        | with_reducible refine w_bind gV_u ?_
        | with_reducible refine w_bind gB_u ?_
        | with_reducible refine w_gld_u ?_)
      refine w_rld1 h hjl rfl ?_
      repeat (first
        | with_reducible refine w_bind (pick_t _ _) ?_
        | with_reducible refine w_bind (pick_f _ _) ?_
        | with_reducible refine w_bind gV_tt ?_
        | with_reducible refine w_bind gV_ff ?_
        | with_reducible refine w_bind gV_tf ?_
        | with_reducible refine w_bind gV_ft ?_
        | with_reducible refine w_bind gB_tf ?_
        | with_reducible refine w_bind gB_ft ?_
        | with_reducible refine w_gE_tf ?_
        | with_reducible refine w_gE_ft ?_
        | with_reducible refine w_gE_tt ?_
        | with_reducible refine w_gE_ff ?_
        | with_reducible refine w_onK_tf ?_
        | with_reducible refine w_onK_ft ?_
        | with_reducible refine w_onK_tt ?_
        | with_reducible refine w_onK_ff ?_
        | with_reducible refine w_gld_tt ?_
        | with_reducible refine w_gld_ff ?_
        | with_reducible refine w_gld_tf ?_
        | with_reducible refine w_gld_ft ?_
        | with_reducible refine w_gldN_tt ?_
        | with_reducible refine w_gldN_ff ?_
        | with_reducible refine w_gldN_tf ?_
        | with_reducible refine w_gldN_ft ?_
        | with_reducible refine w_gB_tt ?_
        | with_reducible refine w_gB_ff ?_
        | with_reducible refine w_bind un_not ?_
        | with_reducible refine w_cond_t ?_
        | with_reducible refine w_cond_f ?_
        | with_reducible refine w_bind gV_u ?_
        | with_reducible refine w_bind gB_u ?_
        | with_reducible refine w_gld_u ?_)
      refine w_bind (bin_eql) ?_
      repeat (first
        | with_reducible refine w_bind (pick_t _ _) ?_
        | with_reducible refine w_bind (pick_f _ _) ?_
        | with_reducible refine w_bind gV_tt ?_
        | with_reducible refine w_bind gV_ff ?_
        | with_reducible refine w_bind gV_tf ?_
        | with_reducible refine w_bind gV_ft ?_
        | with_reducible refine w_bind gB_tf ?_
        | with_reducible refine w_bind gB_ft ?_
        | with_reducible refine w_gE_tf ?_
        | with_reducible refine w_gE_ft ?_
        | with_reducible refine w_gE_tt ?_
        | with_reducible refine w_gE_ff ?_
        | with_reducible refine w_onK_tf ?_
        | with_reducible refine w_onK_ft ?_
        | with_reducible refine w_onK_tt ?_
        | with_reducible refine w_onK_ff ?_
        | with_reducible refine w_gld_tt ?_
        | with_reducible refine w_gld_ff ?_
        | with_reducible refine w_gld_tf ?_
        | with_reducible refine w_gld_ft ?_
        | with_reducible refine w_gldN_tt ?_
        | with_reducible refine w_gldN_ff ?_
        | with_reducible refine w_gldN_tf ?_
        | with_reducible refine w_gldN_ft ?_
        | with_reducible refine w_gB_tt ?_
        | with_reducible refine w_gB_ff ?_
        | with_reducible refine w_bind un_not ?_
        | with_reducible refine w_cond_t ?_
        | with_reducible refine w_cond_f ?_
        | with_reducible refine w_bind gV_u ?_
        | with_reducible refine w_bind gB_u ?_
        | with_reducible refine w_gld_u ?_)
      refine next _ ?_
      rw [hs, List.mem_append, List.mem_singleton, beq_iff_eq]
      constructor
      · intro e; exact .inr e.symm
      · rintro (h | h)
        · exact absurd (hb.2 h) (by simp)
        · exact h.symm
theorem r27_mid [r : Rd P s 1 encI l] (n : Nat) (k i : Nat) (x6 : Value) {H : AH} (h : Holds (P * R) H) (hk : i + k ≤ l.length) (hl : l.length < 1099511627776) (hn : (n : Int) < 9223372036854775808)
    (hit : (∀ w : Nat, w < n → (w : Int) ∈ win l i (i + k)) → wp (r27_Even_k6 s (vi n) (vi k) x6 (vi i) H) Q) (miss : (¬ ∀ w : Nat, w < n → (w : Int) ∈ win l i (i + k)) → Q (vb false) H) :
    ∀ (d w : Nat), w + d = n → (∀ w' : Nat, w' < w → (w' : Int) ∈ win l i (i + k)) → wp (r27_Even_k11 s (vi n) (vi k) x6 (vi i) (vi w) H) Q := by
  intro d
  induction d with
  | zero =>
    intro w hw hall
    refine wp_eq (r27_Even_k11_eq _ _ _ _ _ _ H) ?_
    refine w_bind (lss_f (by omega)) ?_
    repeat (first
      | with_reducible refine w_bind (pick_t _ _) ?_
      | with_reducible refine w_bind (pick_f _ _) ?_
      | with_reducible refine w_bind gV_tt ?_
      | with_reducible refine w_bind gV_ff ?_
      | with_reducible refine w_bind gV_tf ?_
      | with_reducible refine w_bind gV_ft ?_
      | with_reducible refine w_bind gB_tf ?_
      | with_reducible refine w_bind gB_ft ?_
      | with_reducible refine w_gE_tf ?_
      | with_reducible refine w_gE_ft ?_
      | with_reducible refine w_gE_tt ?_
      | with_reducible refine w_gE_ff ?_
      | with_reducible refine w_onK_tf ?_
      | with_reducible refine w_onK_ft ?_
      | with_reducible refine w_onK_tt ?_
      | with_reducible refine w_onK_ff ?_
      | with_reducible refine w_gld_tt ?_
      | with_reducible refine w_gld_ff ?_
      | with_reducible refine w_gld_tf ?_
      | with_reducible refine w_gld_ft ?_
      | with_reducible refine w_gldN_tt ?_
      | with_reducible refine w_gldN_ff ?_
      | with_reducible refine w_gldN_tf ?_
      | with_reducible refine w_gldN_ft ?_
      | with_reducible refine w_gB_tt ?_
      | with_reducible refine w_gB_ff ?_
      | with_reducible refine w_bind un_not ?_
      | with_reducible refine w_cond_t ?_
      | with_reducible refine w_cond_f ?_
      | with_reducible refine w_bind gV_u ?_
      | with_reducible refine w_bind gB_u ?_
      | with_reducible refine w_gld_u ?_)
    refine wp_eq (r27_Even_e10_2_eq _ _ _ _ _ H) ?_
    exact hit (fun w' h => hall w' (by omega))
  | succ d ih =>
    intro w hw hall
    refine wp_eq (r27_Even_k11_eq _ _ _ _ _ _ H) ?_
    refine w_bind (lss_t (by omega)) ?_
    repeat (first
      | with_reducible refine w_bind (pick_t _ _) ?_
      | with_reducible refine w_bind (pick_f _ _) ?_
      | with_reducible refine w_bind gV_tt ?_
      | with_reducible refine w_bind gV_ff ?_
      | with_reducible refine w_bind gV_tf ?_
      | with_reducible refine w_bind gV_ft ?_
      | with_reducible refine w_bind gB_tf ?_
      | with_reducible refine w_bind gB_ft ?_
      | with_reducible refine w_gE_tf ?_
      | with_reducible refine w_gE_ft ?_
      | with_reducible refine w_gE_tt ?_
      | with_reducible refine w_gE_ff ?_
      | with_reducible refine w_onK_tf ?_
      | with_reducible refine w_onK_ft ?_
      | with_reducible refine w_onK_tt ?_
      | with_reducible refine w_onK_ff ?_
      | with_reducible refine w_gld_tt ?_
      | with_reducible refine w_gld_ff ?_
      | with_reducible refine w_gld_tf ?_
      | with_reducible refine w_gld_ft ?_
      | with_reducible refine w_gldN_tt ?_
      | with_reducible refine w_gldN_ff ?_
      | with_reducible refine w_gldN_tf ?_
      | with_reducible refine w_gldN_ft ?_
      | with_reducible refine w_gB_tt ?_
      | with_reducible refine w_gB_ff ?_
      | with_reducible refine w_bind un_not ?_
      | with_reducible refine w_cond_t ?_
      | with_reducible refine w_cond_f ?_
      | with_reducible refine w_bind gV_u ?_
      | with_reducible refine w_bind gB_u ?_
      | with_reducible refine w_gld_u ?_)
    refine wp_eq (r27_Even_k12_eq _ _ _ _ _ _ H) ?_
    refine wp_eq (r27_Even_k16_eq _ _ _ _ _ _ _ H) ?_
    refine wp_eq (r27_Even_k19_eq _ _ _ _ _ _ _ _ H) ?_
    refine r27_inner n k i w x6 h hk hl (fun b hb => ?_) k i false (Nat.le_refl _) rfl ⟨fun h => (by cases h), fun h => ?_⟩
    · refine wp_eq (r27_Even_k17_eq _ _ _ _ _ _ _ H) ?_
      repeat (first
        | with_reducible refine w_bind (pick_t _ _) ?_
        | with_reducible refine w_bind (pick_f _ _) ?_
        | with_reducible refine w_bind gV_tt ?_
        | with_reducible refine w_bind gV_ff ?_
        | with_reducible refine w_bind gV_tf ?_
        | with_reducible refine w_bind gV_ft ?_
        | with_reducible refine w_bind gB_tf ?_
        | with_reducible refine w_bind gB_ft ?_
        | with_reducible refine w_gE_tf ?_
        | with_reducible refine w_gE_ft ?_
        | with_reducible refine w_gE_tt ?_
        | with_reducible refine w_gE_ff ?_
        | with_reducible refine w_onK_tf ?_
        | with_reducible refine w_onK_ft ?_
        | with_reducible refine w_onK_tt ?_
        | with_reducible refine w_onK_ff ?_
        | with_reducible refine w_gld_tt ?_
        | with_reducible refine w_gld_ff ?_
        | with_reducible refine w_gld_tf ?_
        | with_reducible refine w_gld_ft ?_
        | with_reducible refine w_gldN_tt ?_
        | with_reducible refine w_gldN_ff ?_
        | with_reducible refine w_gldN_tf ?_
        | with_reducible refine w_gldN_ft ?_
        | with_reducible refine w_gB_tt ?_
        | with_reducible refine w_gB_ff ?_
        | with_reducible refine w_bind un_not ?_
        | with_reducible refine w_cond_t ?_
        | with_reducible refine w_cond_f ?_
        | with_reducible refine w_bind gV_u ?_
        | with_reducible refine w_bind gB_u ?_
        | with_reducible refine w_gld_u ?_)
      cases b with
      | true =>
        rw [Bool.not_true]
        repeat (first
          | with_reducible refine w_bind (pick_t _ _) ?_
          | with_reducible refine w_bind (pick_f _ _) ?_
          | with_reducible refine w_bind gV_tt ?_
          | with_reducible refine w_bind gV_ff ?_
          | with_reducible refine w_bind gV_tf ?_
          | with_reducible refine w_bind gV_ft ?_
          | with_reducible refine w_bind gB_tf ?_
          | with_reducible refine w_bind gB_ft ?_
          | with_reducible refine w_gE_tf ?_
          | with_reducible refine w_gE_ft ?_
          | with_reducible refine w_gE_tt ?_
          | with_reducible refine w_gE_ff ?_
          | with_reducible refine w_onK_tf ?_
          | with_reducible refine w_onK_ft ?_
          | with_reducible refine w_onK_tt ?_
          | with_reducible refine w_onK_ff ?_
          | with_reducible refine w_gld_tt ?_
          | with_reducible refine w_gld_ff ?_
          | with_reducible refine w_gld_tf ?_
          | with_reducible refine w_gld_ft ?_
          | with_reducible refine w_gldN_tt ?_
          | with_reducible refine w_gldN_ff ?_
          | with_reducible refine w_gldN_tf ?_
          | with_reducible refine w_gldN_ft ?_
          | with_reducible refine w_gB_tt ?_
          | with_reducible refine w_gB_ff ?_
          | with_reducible refine w_bind un_not ?_
          | with_reducible refine w_cond_t ?_
          | with_reducible refine w_cond_f ?_
          | with_reducible refine w_bind gV_u ?_
          | with_reducible refine w_bind gB_u ?_
          | with_reducible refine w_gld_u ?_)
        refine wp_eq (r27_Even_k13_eq _ _ _ _ _ _ H) ?_
        refine w_bind (bin_add_i (by omega) (by omega)) ?_
        refine ih (w + 1) (by omega) (fun w' h' => ?_)
        by_cases e : w' = w
        · subst e; exact hb.1 rfl
        · exact hall w' (by omega)
      | false =>
        rw [Bool.not_false]
        repeat (first
          | with_reducible refine w_bind (pick_t _ _) ?_
          | with_reducible refine w_bind (pick_f _ _) ?_
          | with_reducible refine w_bind gV_tt ?_
          | with_reducible refine w_bind gV_ff ?_
          | with_reducible refine w_bind gV_tf ?_
          | with_reducible refine w_bind gV_ft ?_
          | with_reducible refine w_bind gB_tf ?_
          | with_reducible refine w_bind gB_ft ?_
          | with_reducible refine w_gE_tf ?_
          | with_reducible refine w_gE_ft ?_
          | with_reducible refine w_gE_tt ?_
          | with_reducible refine w_gE_ff ?_
          | with_reducible refine w_onK_tf ?_
          | with_reducible refine w_onK_ft ?_
          | with_reducible refine w_onK_tt ?_
          | with_reducible refine w_onK_ff ?_
          | with_reducible refine w_gld_tt ?_
          | with_reducible refine w_gld_ff ?_
          | with_reducible refine w_gld_tf ?_
          | with_reducible refine w_gld_ft ?_
          | with_reducible refine w_gldN_tt ?_
          | with_reducible refine w_gldN_ff ?_
          | with_reducible refine w_gldN_tf ?_
          | with_reducible refine w_gldN_ft ?_
          | with_reducible refine w_gB_tt ?_
          | with_reducible refine w_gB_ff ?_
          | with_reducible refine w_bind un_not ?_
          | with_reducible refine w_cond_t ?_
          | with_reducible refine w_cond_f ?_
          | with_reducible refine w_bind gV_u ?_
          | with_reducible refine w_bind gB_u ?_
          | with_reducible refine w_gld_u ?_)
        refine w_ret (miss fun hh => ?_)
        have := hb.2 (hh w (by omega))
        cases this
    · have := win_len (l := l) (a := i) (b := i) (by omega)
      rw [Nat.sub_self] at this
      rw [List.eq_nil_of_length_eq_zero this] at h
      cases h
theorem r27_even [r : Rd P s 1 encI l] (hl : l.length < 1099511627776) (n k : Int) (hn : n < 9223372036854775808) : Sp n_r27_Even [s, vi n, vi k] P (fun _ : Unit => vb (evenB l n k)) (fun _ => P) := by
  refine sp_of fun R H h => ?_
  refine wp_of (fun r => r27_Even_of _ _ _ H) ?_
  by_cases h2 : n < 1
  · refine w_bind (lss_t h2) ?_
    repeat (first
      | with_reducible refine w_bind (pick_t _ _) ?_
      | with_reducible refine w_bind (pick_f _ _) ?_
      | with_reducible refine w_bind gV_tt ?_
      | with_reducible refine w_bind gV_ff ?_
      | with_reducible refine w_bind gV_tf ?_
      | with_reducible refine w_bind gV_ft ?_
      | with_reducible refine w_bind gB_tf ?_
      | with_reducible refine w_bind gB_ft ?_
      | with_reducible refine w_gE_tf ?_
      | with_reducible refine w_gE_ft ?_
      | with_reducible refine w_gE_tt ?_
      | with_reducible refine w_gE_ff ?_
      | with_reducible refine w_onK_tf ?_
      | with_reducible refine w_onK_ft ?_
      | with_reducible refine w_onK_tt ?_
      | with_reducible refine w_onK_ff ?_
      | with_reducible refine w_gld_tt ?_
      | with_reducible refine w_gld_ff ?_
      | with_reducible refine w_gld_tf ?_
      | with_reducible refine w_gld_ft ?_
      | with_reducible refine w_gldN_tt ?_
      | with_reducible refine w_gldN_ff ?_
      | with_reducible refine w_gldN_tf ?_
      | with_reducible refine w_gldN_ft ?_
      | with_reducible refine w_gB_tt ?_
      | with_reducible refine w_gB_ff ?_
      | with_reducible refine w_bind un_not ?_
      | with_reducible refine w_cond_t ?_
      | with_reducible refine w_cond_f ?_
      | with_reducible refine w_bind gV_u ?_
      | with_reducible refine w_bind gB_u ?_
      | with_reducible refine w_gld_u ?_)
    rw [evenB_of (b := true) ⟨fun _ => .inl h2, fun _ => rfl⟩]
    exact w_ret ⟨(), rfl, Holds.to (by assumption)⟩
  refine w_bind (lss_f h2) ?_
  repeat (first
    | with_reducible refine w_bind (pick_t _ _) ?_
    | with_reducible refine w_bind (pick_f _ _) ?_
    | with_reducible refine w_bind gV_tt ?_
    | with_reducible refine w_bind gV_ff ?_
    | with_reducible refine w_bind gV_tf ?_
    | with_reducible refine w_bind gV_ft ?_
    | with_reducible refine w_bind gB_tf ?_
    | with_reducible refine w_bind gB_ft ?_
    | with_reducible refine w_gE_tf ?_
    | with_reducible refine w_gE_ft ?_
    | with_reducible refine w_gE_tt ?_
    | with_reducible refine w_gE_ff ?_
    | with_reducible refine w_onK_tf ?_
    | with_reducible refine w_onK_ft ?_
    | with_reducible refine w_onK_tt ?_
    | with_reducible refine w_onK_ff ?_
    | with_reducible refine w_gld_tt ?_
    | with_reducible refine w_gld_ff ?_
    | with_reducible refine w_gld_tf ?_
    | with_reducible refine w_gld_ft ?_
    | with_reducible refine w_gldN_tt ?_
    | with_reducible refine w_gldN_ff ?_
    | with_reducible refine w_gldN_tf ?_
    | with_reducible refine w_gldN_ft ?_
    | with_reducible refine w_gB_tt ?_
    | with_reducible refine w_gB_ff ?_
    | with_reducible refine w_bind un_not ?_
    | with_reducible refine w_cond_t ?_
    | with_reducible refine w_cond_f ?_
    | with_reducible refine w_bind gV_u ?_
    | with_reducible refine w_bind gB_u ?_
    | with_reducible refine w_gld_u ?_)
  by_cases h3 : k < 1
  · refine w_bind (lss_t h3) ?_
    repeat (first
      | with_reducible refine w_bind (pick_t _ _) ?_
      | with_reducible refine w_bind (pick_f _ _) ?_
      | with_reducible refine w_bind gV_tt ?_
      | with_reducible refine w_bind gV_ff ?_
      | with_reducible refine w_bind gV_tf ?_
      | with_reducible refine w_bind gV_ft ?_
      | with_reducible refine w_bind gB_tf ?_
      | with_reducible refine w_bind gB_ft ?_
      | with_reducible refine w_gE_tf ?_
      | with_reducible refine w_gE_ft ?_
      | with_reducible refine w_gE_tt ?_
      | with_reducible refine w_gE_ff ?_
      | with_reducible refine w_onK_tf ?_
      | with_reducible refine w_onK_ft ?_
      | with_reducible refine w_onK_tt ?_
      | with_reducible refine w_onK_ff ?_
      | with_reducible refine w_gld_tt ?_
      | with_reducible refine w_gld_ff ?_
      | with_reducible refine w_gld_tf ?_
      | with_reducible refine w_gld_ft ?_
      | with_reducible refine w_gldN_tt ?_
      | with_reducible refine w_gldN_ff ?_
      | with_reducible refine w_gldN_tf ?_
      | with_reducible refine w_gldN_ft ?_
      | with_reducible refine w_gB_tt ?_
      | with_reducible refine w_gB_ff ?_
      | with_reducible refine w_bind un_not ?_
      | with_reducible refine w_cond_t ?_
      | with_reducible refine w_cond_f ?_
      | with_reducible refine w_bind gV_u ?_
      | with_reducible refine w_bind gB_u ?_
      | with_reducible refine w_gld_u ?_)
    rw [evenB_of (b := false) ⟨fun h => (by cases h), fun h => absurd h (by rintro (h | ⟨h, _⟩) <;> omega)⟩]
    exact w_ret ⟨(), rfl, Holds.to (by assumption)⟩
  refine w_bind (lss_f h3) ?_
  repeat (first
    | with_reducible refine w_bind (pick_t _ _) ?_
    | with_reducible refine w_bind (pick_f _ _) ?_
    | with_reducible refine w_bind gV_tt ?_
    | with_reducible refine w_bind gV_ff ?_
    | with_reducible refine w_bind gV_tf ?_
    | with_reducible refine w_bind gV_ft ?_
    | with_reducible refine w_bind gB_tf ?_
    | with_reducible refine w_bind gB_ft ?_
    | with_reducible refine w_gE_tf ?_
    | with_reducible refine w_gE_ft ?_
    | with_reducible refine w_gE_tt ?_
    | with_reducible refine w_gE_ff ?_
    | with_reducible refine w_onK_tf ?_
    | with_reducible refine w_onK_ft ?_
    | with_reducible refine w_onK_tt ?_
    | with_reducible refine w_onK_ff ?_
    | with_reducible refine w_gld_tt ?_
    | with_reducible refine w_gld_ff ?_
    | with_reducible refine w_gld_tf ?_
    | with_reducible refine w_gld_ft ?_
    | with_reducible refine w_gldN_tt ?_
    | with_reducible refine w_gldN_ff ?_
    | with_reducible refine w_gldN_tf ?_
    | with_reducible refine w_gldN_ft ?_
    | with_reducible refine w_gB_tt ?_
    | with_reducible refine w_gB_ff ?_
    | with_reducible refine w_bind un_not ?_
    | with_reducible refine w_cond_t ?_
    | with_reducible refine w_cond_f ?_
    | with_reducible refine w_bind gV_u ?_
    | with_reducible refine w_bind gB_u ?_
    | with_reducible refine w_gld_u ?_)
  obtain ⟨n', rfl⟩ : ∃ m : Nat, n = m := ⟨n.toNat, by omega⟩
  obtain ⟨k', rfl⟩ : ∃ m : Nat, k = m := ⟨k.toNat, by omega⟩
  refine wp_eq (r27_Even_k0_eq _ _ _ _ H) ?_
  refine wp_eq (r27_Even_k2_eq _ _ _ _ _ H) ?_
  have fin : ∀ {b : Bool}, (b = true ↔ evenS l n' k') → ∃ x : Unit, vb b = vb (evenB l n' k') ∧ Holds (P * R) H := fun hb => ⟨(), by rw [evenB_of hb], h⟩
  have loop : ∀ (d i : Nat), (l.length + 1 ≤ i + d) → (∀ i' : Nat, i' < i → i' + k' ≤ l.length → ∀ w : Nat, w < n' → (w : Int) ∈ win l i' (i' + k')) → i ≤ l.length + 1 →
      wp (r27_Even_k4 s (vi n') (vi k') (vb false) (vi i) H) fun v' H' => ∃ x : Unit, v' = vb (evenB l n' k') ∧ Holds (P * R) H' := by
    intro d
    induction d with
    | zero =>
      intro i hi hall hil
      refine wp_eq (r27_Even_k4_eq _ _ _ _ _ H) ?_
      refine w_rlen h ?_
      have done : wp (r27_Even_e3_0 (vb false) H) fun v' H' => ∃ x : Unit, v' = vb (evenB l n' k') ∧ Holds (P * R) H' := by
        refine wp_eq (r27_Even_e3_0_eq _ H) ?_
        refine wp_eq (r27_Even_k1_eq _ H) ?_
        exact w_ret (fin ⟨fun _ => .inr ⟨by omega, fun i' h' w hw => hall i' (by omega) (by omega) w (by omega)⟩, fun _ => rfl⟩)
      by_cases hkl : (k' : Int) ≤ l.length
      · refine w_bind (leq_t hkl) ?_
        repeat (first
          | with_reducible refine w_bind (pick_t _ _) ?_
          | with_reducible refine w_bind (pick_f _ _) ?_
          | with_reducible refine w_bind gV_tt ?_
          | with_reducible refine w_bind gV_ff ?_
          | with_reducible refine w_bind gV_tf ?_
          | with_reducible refine w_bind gV_ft ?_
          | with_reducible refine w_bind gB_tf ?_
          | with_reducible refine w_bind gB_ft ?_
          | with_reducible refine w_gE_tf ?_
          | with_reducible refine w_gE_ft ?_
          | with_reducible refine w_gE_tt ?_
          | with_reducible refine w_gE_ff ?_
          | with_reducible refine w_onK_tf ?_
          | with_reducible refine w_onK_ft ?_
          | with_reducible refine w_onK_tt ?_
          | with_reducible refine w_onK_ff ?_
          | with_reducible refine w_gld_tt ?_
          | with_reducible refine w_gld_ff ?_
          | with_reducible refine w_gld_tf ?_
          | with_reducible refine w_gld_ft ?_
          | with_reducible refine w_gldN_tt ?_
          | with_reducible refine w_gldN_ff ?_
          | with_reducible refine w_gldN_tf ?_
          | with_reducible refine w_gldN_ft ?_
          | with_reducible refine w_gB_tt ?_
          | with_reducible refine w_gB_ff ?_
          | with_reducible refine w_bind un_not ?_
          | with_reducible refine w_cond_t ?_
          | with_reducible refine w_cond_f ?_
          | with_reducible refine w_bind gV_u ?_
          | with_reducible refine w_bind gB_u ?_
          | with_reducible refine w_gld_u ?_)
        refine w_rlenB h ?_
        repeat (first
          | with_reducible refine w_bind (pick_t _ _) ?_
          | with_reducible refine w_bind (pick_f _ _) ?_
          | with_reducible refine w_bind gV_tt ?_
          | with_reducible refine w_bind gV_ff ?_
          | with_reducible refine w_bind gV_tf ?_
          | with_reducible refine w_bind gV_ft ?_
          | with_reducible refine w_bind gB_tf ?_
          | with_reducible refine w_bind gB_ft ?_
          | with_reducible refine w_gE_tf ?_
          | with_reducible refine w_gE_ft ?_
          | with_reducible refine w_gE_tt ?_
          | with_reducible refine w_gE_ff ?_
          | with_reducible refine w_onK_tf ?_
          | with_reducible refine w_onK_ft ?_
          | with_reducible refine w_onK_tt ?_
          | with_reducible refine w_onK_ff ?_
          | with_reducible refine w_gld_tt ?_
          | with_reducible refine w_gld_ff ?_
          | with_reducible refine w_gld_tf ?_
          | with_reducible refine w_gld_ft ?_
          | with_reducible refine w_gldN_tt ?_
          | with_reducible refine w_gldN_ff ?_
          | with_reducible refine w_gldN_tf ?_
          | with_reducible refine w_gldN_ft ?_
          | with_reducible refine w_gB_tt ?_
          | with_reducible refine w_gB_ff ?_
          | with_reducible refine w_bind un_not ?_
          | with_reducible refine w_cond_t ?_
          | with_reducible refine w_cond_f ?_
          | with_reducible refine w_bind gV_u ?_
          | with_reducible refine w_bind gB_u ?_
          | with_reducible refine w_gld_u ?_)
        refine w_bind (bin_sub_i (by omega) (by omega)) ?_
        repeat (first
          | with_reducible refine w_bind (pick_t _ _) ?_
          | with_reducible refine w_bind (pick_f _ _) ?_
          | with_reducible refine w_bind gV_tt ?_
          | with_reducible refine w_bind gV_ff ?_
          | with_reducible refine w_bind gV_tf ?_
          | with_reducible refine w_bind gV_ft ?_
          | with_reducible refine w_bind gB_tf ?_
          | with_reducible refine w_bind gB_ft ?_
          | with_reducible refine w_gE_tf ?_
          | with_reducible refine w_gE_ft ?_
          | with_reducible refine w_gE_tt ?_
          | with_reducible refine w_gE_ff ?_
          | with_reducible refine w_onK_tf ?_
          | with_reducible refine w_onK_ft ?_
          | with_reducible refine w_onK_tt ?_
          | with_reducible refine w_onK_ff ?_
          | with_reducible refine w_gld_tt ?_
          | with_reducible refine w_gld_ff ?_
          | with_reducible refine w_gld_tf ?_
          | with_reducible refine w_gld_ft ?_
          | with_reducible refine w_gldN_tt ?_
          | with_reducible refine w_gldN_ff ?_
          | with_reducible refine w_gldN_tf ?_
          | with_reducible refine w_gldN_ft ?_
          | with_reducible refine w_gB_tt ?_
          | with_reducible refine w_gB_ff ?_
          | with_reducible refine w_bind un_not ?_
          | with_reducible refine w_cond_t ?_
          | with_reducible refine w_cond_f ?_
          | with_reducible refine w_bind gV_u ?_
          | with_reducible refine w_bind gB_u ?_
          | with_reducible refine w_gld_u ?_)
        refine w_bind (leq_f (by omega)) ?_
        repeat (first
          | with_reducible refine w_bind (pick_t _ _) ?_
          | with_reducible refine w_bind (pick_f _ _) ?_
          | with_reducible refine w_bind gV_tt ?_
          | with_reducible refine w_bind gV_ff ?_
          | with_reducible refine w_bind gV_tf ?_
          | with_reducible refine w_bind gV_ft ?_
          | with_reducible refine w_bind gB_tf ?_
          | with_reducible refine w_bind gB_ft ?_
          | with_reducible refine w_gE_tf ?_
          | with_reducible refine w_gE_ft ?_
          | with_reducible refine w_gE_tt ?_
          | with_reducible refine w_gE_ff ?_
          | with_reducible refine w_onK_tf ?_
          | with_reducible refine w_onK_ft ?_
          | with_reducible refine w_onK_tt ?_
          | with_reducible refine w_onK_ff ?_
          | with_reducible refine w_gld_tt ?_
          | with_reducible refine w_gld_ff ?_
          | with_reducible refine w_gld_tf ?_
          | with_reducible refine w_gld_ft ?_
          | with_reducible refine w_gldN_tt ?_
          | with_reducible refine w_gldN_ff ?_
          | with_reducible refine w_gldN_tf ?_
          | with_reducible refine w_gldN_ft ?_
          | with_reducible refine w_gB_tt ?_
          | with_reducible refine w_gB_ff ?_
          | with_reducible refine w_bind un_not ?_
          | with_reducible refine w_cond_t ?_
          | with_reducible refine w_cond_f ?_
          | with_reducible refine w_bind gV_u ?_
          | with_reducible refine w_bind gB_u ?_
          | with_reducible refine w_gld_u ?_)
        exact done
      · refine w_bind (leq_f hkl) ?_
        repeat (first
          | with_reducible refine w_bind (pick_t _ _) ?_
          | with_reducible refine w_bind (pick_f _ _) ?_
          | with_reducible refine w_bind gV_tt ?_
          | with_reducible refine w_bind gV_ff ?_
          | with_reducible refine w_bind gV_tf ?_
          | with_reducible refine w_bind gV_ft ?_
          | with_reducible refine w_bind gB_tf ?_
          | with_reducible refine w_bind gB_ft ?_
          | with_reducible refine w_gE_tf ?_
          | with_reducible refine w_gE_ft ?_
          | with_reducible refine w_gE_tt ?_
          | with_reducible refine w_gE_ff ?_
          | with_reducible refine w_onK_tf ?_
          | with_reducible refine w_onK_ft ?_
          | with_reducible refine w_onK_tt ?_
          | with_reducible refine w_onK_ff ?_
          | with_reducible refine w_gld_tt ?_
          | with_reducible refine w_gld_ff ?_
          | with_reducible refine w_gld_tf ?_
          | with_reducible refine w_gld_ft ?_
          | with_reducible refine w_gldN_tt ?_
          | with_reducible refine w_gldN_ff ?_
          | with_reducible refine w_gldN_tf ?_
          | with_reducible refine w_gldN_ft ?_
          | with_reducible refine w_gB_tt ?_
          | with_reducible refine w_gB_ff ?_
          | with_reducible refine w_bind un_not ?_
          | with_reducible refine w_cond_t ?_
          | with_reducible refine w_cond_f ?_
          | with_reducible refine w_bind gV_u ?_
          | with_reducible refine w_bind gB_u ?_
          | with_reducible refine w_gld_u ?_)
        exact done
    | succ d ih =>
      intro i hi hall hil
      refine wp_eq (r27_Even_k4_eq _ _ _ _ _ H) ?_
      refine w_rlen h ?_
      have done : ¬ i + k' ≤ l.length → wp (r27_Even_e3_0 (vb false) H) fun v' H' => ∃ x : Unit, v' = vb (evenB l n' k') ∧ Holds (P * R) H' := by
        intro hno
        refine wp_eq (r27_Even_e3_0_eq _ H) ?_
        refine wp_eq (r27_Even_k1_eq _ H) ?_
        exact w_ret (fin ⟨fun _ => .inr ⟨by omega, fun i' h' w hw => hall i' (by omega) (by omega) w (by omega)⟩, fun _ => rfl⟩)
      by_cases hkl : (k' : Int) ≤ l.length
      · refine w_bind (leq_t hkl) ?_
        repeat (first
          | with_reducible refine w_bind (pick_t _ _) ?_
          | with_reducible refine w_bind (pick_f _ _) ?_
          | with_reducible refine w_bind gV_tt ?_
          | with_reducible refine w_bind gV_ff ?_
          | with_reducible refine w_bind gV_tf ?_
          | with_reducible refine w_bind gV_ft ?_
          | with_reducible refine w_bind gB_tf ?_
          | with_reducible refine w_bind gB_ft ?_
          | with_reducible refine w_gE_tf ?_
          | with_reducible refine w_gE_ft ?_
          | with_reducible refine w_gE_tt ?_
          | with_reducible refine w_gE_ff ?_
          | with_reducible refine w_onK_tf ?_
          | with_reducible refine w_onK_ft ?_
          | with_reducible refine w_onK_tt ?_
          | with_reducible refine w_onK_ff ?_
          | with_reducible refine w_gld_tt ?_
          | with_reducible refine w_gld_ff ?_
          | with_reducible refine w_gld_tf ?_
          | with_reducible refine w_gld_ft ?_
          | with_reducible refine w_gldN_tt ?_
          | with_reducible refine w_gldN_ff ?_
          | with_reducible refine w_gldN_tf ?_
          | with_reducible refine w_gldN_ft ?_
          | with_reducible refine w_gB_tt ?_
          | with_reducible refine w_gB_ff ?_
          | with_reducible refine w_bind un_not ?_
          | with_reducible refine w_cond_t ?_
          | with_reducible refine w_cond_f ?_
          | with_reducible refine w_bind gV_u ?_
          | with_reducible refine w_bind gB_u ?_
          | with_reducible refine w_gld_u ?_)
        refine w_rlenB h ?_
        repeat (first
          | with_reducible refine w_bind (pick_t _ _) ?_
          | with_reducible refine w_bind (pick_f _ _) ?_
          | with_reducible refine w_bind gV_tt ?_
          | with_reducible refine w_bind gV_ff ?_
          | with_reducible refine w_bind gV_tf ?_
          | with_reducible refine w_bind gV_ft ?_
          | with_reducible refine w_bind gB_tf ?_
          | with_reducible refine w_bind gB_ft ?_
          | with_reducible refine w_gE_tf ?_
          | with_reducible refine w_gE_ft ?_
          | with_reducible refine w_gE_tt ?_
          | with_reducible refine w_gE_ff ?_
          | with_reducible refine w_onK_tf ?_
          | with_reducible refine w_onK_ft ?_
          | with_reducible refine w_onK_tt ?_
          | with_reducible refine w_onK_ff ?_
          | with_reducible refine w_gld_tt ?_
          | with_reducible refine w_gld_ff ?_
          | with_reducible refine w_gld_tf ?_
          | with_reducible refine w_gld_ft ?_
          | with_reducible refine w_gldN_tt ?_
          | with_reducible refine w_gldN_ff ?_
          | with_reducible refine w_gldN_tf ?_
          | with_reducible refine w_gldN_ft ?_
          | with_reducible refine w_gB_tt ?_
          | with_reducible refine w_gB_ff ?_
          | with_reducible refine w_bind un_not ?_
          | with_reducible refine w_cond_t ?_
          | with_reducible refine w_cond_f ?_
          | with_reducible refine w_bind gV_u ?_
          | with_reducible refine w_bind gB_u ?_
          | with_reducible refine w_gld_u ?_)
        refine w_bind (bin_sub_i (by omega) (by omega)) ?_
        repeat (first
          | with_reducible refine w_bind (pick_t _ _) ?_
          | with_reducible refine w_bind (pick_f _ _) ?_
          | with_reducible refine w_bind gV_tt ?_
          | with_reducible refine w_bind gV_ff ?_
          | with_reducible refine w_bind gV_tf ?_
          | with_reducible refine w_bind gV_ft ?_
          | with_reducible refine w_bind gB_tf ?_
          | with_reducible refine w_bind gB_ft ?_
          | with_reducible refine w_gE_tf ?_
          | with_reducible refine w_gE_ft ?_
          | with_reducible refine w_gE_tt ?_
          | with_reducible refine w_gE_ff ?_
          | with_reducible refine w_onK_tf ?_
          | with_reducible refine w_onK_ft ?_
          | with_reducible refine w_onK_tt ?_
          | with_reducible refine w_onK_ff ?_
          | with_reducible refine w_gld_tt ?_
          | with_reducible refine w_gld_ff ?_
          | with_reducible refine w_gld_tf ?_
          | with_reducible refine w_gld_ft ?_
          | with_reducible refine w_gldN_tt ?_
          | with_reducible refine w_gldN_ff ?_
          | with_reducible refine w_gldN_tf ?_
          | with_reducible refine w_gldN_ft ?_
          | with_reducible refine w_gB_tt ?_
          | with_reducible refine w_gB_ff ?_
          | with_reducible refine w_bind un_not ?_
          | with_reducible refine w_cond_t ?_
          | with_reducible refine w_cond_f ?_
          | with_reducible refine w_bind gV_u ?_
          | with_reducible refine w_bind gB_u ?_
          | with_reducible refine w_gld_u ?_)
        by_cases hik : (i : Int) ≤ (l.length : Int) - (k' : Int)
        · refine w_bind (leq_t hik) ?_
          repeat (first
            | with_reducible refine w_bind (pick_t _ _) ?_
            | with_reducible refine w_bind (pick_f _ _) ?_
            | with_reducible refine w_bind gV_tt ?_
            | with_reducible refine w_bind gV_ff ?_
            | with_reducible refine w_bind gV_tf ?_
            | with_reducible refine w_bind gV_ft ?_
            | with_reducible refine w_bind gB_tf ?_
            | with_reducible refine w_bind gB_ft ?_
            | with_reducible refine w_gE_tf ?_
            | with_reducible refine w_gE_ft ?_
            | with_reducible refine w_gE_tt ?_
            | with_reducible refine w_gE_ff ?_
            | with_reducible refine w_onK_tf ?_
            | with_reducible refine w_onK_ft ?_
            | with_reducible refine w_onK_tt ?_
            | with_reducible refine w_onK_ff ?_
            | with_reducible refine w_gld_tt ?_
            | with_reducible refine w_gld_ff ?_
            | with_reducible refine w_gld_tf ?_
            | with_reducible refine w_gld_ft ?_
            | with_reducible refine w_gldN_tt ?_
            | with_reducible refine w_gldN_ff ?_
            | with_reducible refine w_gldN_tf ?_
            | with_reducible refine w_gldN_ft ?_
            | with_reducible refine w_gB_tt ?_
            | with_reducible refine w_gB_ff ?_
            | with_reducible refine w_bind un_not ?_
            | with_reducible refine w_cond_t ?_
            | with_reducible refine w_cond_f ?_
            | with_reducible refine w_bind gV_u ?_
            | with_reducible refine w_bind gB_u ?_
            | with_reducible refine w_gld_u ?_)
          refine wp_eq (r27_Even_k5_eq _ _ _ _ _ H) ?_
          refine wp_eq (r27_Even_k9_eq _ _ _ _ _ _ H) ?_
          refine r27_mid n' k' i (vb false) h (by omega) hl hn (fun hhit => ?_) (fun hmiss => ?_) n' 0 (by omega) (fun w' h' => by omega)
          · refine wp_eq (r27_Even_k6_eq _ _ _ _ _ H) ?_
            refine w_bind (bin_add_i (by omega) (by omega)) ?_
            refine ih (i + 1) (by omega) (fun i' h' hk' w hw => ?_) (by omega)
            by_cases e : i' = i
            · subst e; exact hhit w hw
            · exact hall i' (by omega) hk' w hw
          · refine fin ⟨fun h => (by cases h), fun hS => ?_⟩
            rcases hS with hS | ⟨_, hS⟩
            · omega
            · exact absurd (fun w hw => by have := hS i (by omega) w (by omega); simpa using this) hmiss
        · refine w_bind (leq_f hik) ?_
          repeat (first
            | with_reducible refine w_bind (pick_t _ _) ?_
            | with_reducible refine w_bind (pick_f _ _) ?_
            | with_reducible refine w_bind gV_tt ?_
            | with_reducible refine w_bind gV_ff ?_
            | with_reducible refine w_bind gV_tf ?_
            | with_reducible refine w_bind gV_ft ?_
            | with_reducible refine w_bind gB_tf ?_
            | with_reducible refine w_bind gB_ft ?_
            | with_reducible refine w_gE_tf ?_
            | with_reducible refine w_gE_ft ?_
            | with_reducible refine w_gE_tt ?_
            | with_reducible refine w_gE_ff ?_
            | with_reducible refine w_onK_tf ?_
            | with_reducible refine w_onK_ft ?_
            | with_reducible refine w_onK_tt ?_
            | with_reducible refine w_onK_ff ?_
            | with_reducible refine w_gld_tt ?_
            | with_reducible refine w_gld_ff ?_
            | with_reducible refine w_gld_tf ?_
            | with_reducible refine w_gld_ft ?_
            | with_reducible refine w_gldN_tt ?_
            | with_reducible refine w_gldN_ff ?_
            | with_reducible refine w_gldN_tf ?_
            | with_reducible refine w_gldN_ft ?_
            | with_reducible refine w_gB_tt ?_
            | with_reducible refine w_gB_ff ?_
            | with_reducible refine w_bind un_not ?_
            | with_reducible refine w_cond_t ?_
            | with_reducible refine w_cond_f ?_
            | with_reducible refine w_bind gV_u ?_
            | with_reducible refine w_bind gB_u ?_
            | with_reducible refine w_gld_u ?_)
          exact done (by omega)
      · refine w_bind (leq_f hkl) ?_
        repeat (first
          | with_reducible refine w_bind (pick_t _ _) ?_
          | with_reducible refine w_bind (pick_f _ _) ?_
          | with_reducible refine w_bind gV_tt ?_
          | with_reducible refine w_bind gV_ff ?_
          | with_reducible refine w_bind gV_tf ?_
          | with_reducible refine w_bind gV_ft ?_
          | with_reducible refine w_bind gB_tf ?_
          | with_reducible refine w_bind gB_ft ?_
          | with_reducible refine w_gE_tf ?_
          | with_reducible refine w_gE_ft ?_
          | with_reducible refine w_gE_tt ?_
          | with_reducible refine w_gE_ff ?_
          | with_reducible refine w_onK_tf ?_
          | with_reducible refine w_onK_ft ?_
          | with_reducible refine w_onK_tt ?_
          | with_reducible refine w_onK_ff ?_
          | with_reducible refine w_gld_tt ?_
          | with_reducible refine w_gld_ff ?_
          | with_reducible refine w_gld_tf ?_
          | with_reducible refine w_gld_ft ?_
          | with_reducible refine w_gldN_tt ?_
          | with_reducible refine w_gldN_ff ?_
          | with_reducible refine w_gldN_tf ?_
          | with_reducible refine w_gldN_ft ?_
          | with_reducible refine w_gB_tt ?_
          | with_reducible refine w_gB_ff ?_
          | with_reducible refine w_bind un_not ?_
          | with_reducible refine w_cond_t ?_
          | with_reducible refine w_cond_f ?_
          | with_reducible refine w_bind gV_u ?_
          | with_reducible refine w_bind gB_u ?_
          | with_reducible refine w_gld_u ?_)
        exact done (by omega)
  exact loop (l.length + 1) 0 (by omega) (fun i' h' => by omega) (by omega)
end
end Go.Proofs.YtbjelopcelompaaGreatDoor.Gst
