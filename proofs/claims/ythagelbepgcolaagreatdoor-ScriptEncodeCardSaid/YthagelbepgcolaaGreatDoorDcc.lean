/- A number's bytes are laid behind others: both sides. -/
import Derived.Test.YthagelbepgcolaaGreatDoorDcb
namespace Go.Proofs.YthagelbepgcolaaGreatDoor.Gst
open Go Go.RowKit
set_option linter.unusedSimpArgs false
set_option linter.unusedVariables false
set_option maxHeartbeats 1000000

theorem encN_snoc {l : List Nat} {n : Nat} (h : ¬ n < 128) : l ++ encN n = (l ++ [n % 128 + 128]) ++ encN (n / 128) := by
  rw [encN_big h, List.append_assoc]; rfl
theorem put_loop {R : SP} : ∀ (k n : Nat) (s : Value) (l : List Nat) (H : AH), n < 2 ^ (7 * k) → l.length + k ≤ 1000000 → Holds (ts 1 encB s l * R) H →
    wp (script_put_k7 s (vu n) (.slice none 0 0) H) fun v' H' => ∃ v : Value, v' = v ∧ Holds (ts 1 encB v (l ++ encN n) * R) H' := by
  intro k
  induction k with
  | zero =>
    intro n s l H hn hl h
    have hn0 : n = 0 := by simpa using hn
    subst hn0
    refine wp_eq (script_put_k7_eq _ _ _ H) ?_
    refine w_bind (gtr_f (by omega)) ?_
    refine gs ?_
    refine wp_eq (script_put_e6_0_eq _ _ _ H) ?_
    refine wp_eq (script_put_k1_eq _ _ _ H) ?_
    refine w_bind (conv_u8) ?_
    refine w_R h fun b0 H5 h5 => ?_
    refine w_tapp (s := s) (l := l) (0 : Nat) h5 rfl ?_ (by omega) fun a c H6 h6 => ?_
    · unfold room; omega
    rw [encN_small (by omega)]
    exact w_ret ⟨_, rfl, h6.to⟩
  | succ k ih =>
    intro n s l H hn hl h
    refine wp_eq (script_put_k7_eq _ _ _ H) ?_
    by_cases hc : n < 128
    · refine w_bind (gtr_f (by omega)) ?_
      refine gs ?_
      refine wp_eq (script_put_e6_0_eq _ _ _ H) ?_
      refine wp_eq (script_put_k1_eq _ _ _ H) ?_
      refine w_bind (conv_u8) ?_
      refine w_R h fun b0 H5 h5 => ?_
      refine w_tapp (s := s) (l := l) (n : Nat) h5 (by rw [show n % 256 = n by omega]) ?_ (by omega) fun a c H6 h6 => ?_
      · unfold room; omega
      rw [encN_small hc]
      exact w_ret ⟨_, rfl, h6.to⟩
    · refine w_bind (gtr_t (by omega)) ?_
      refine gs ?_
      refine wp_eq (script_put_k8_eq _ _ _ H) ?_
      refine w_bind (conv_u8) ?_
      refine w_bind (or128 (by omega)) ?_
      refine w_R h fun b0 H5 h5 => ?_
      refine w_tapp (s := s) (l := l) (n % 128 + 128 : Nat) h5 (by rw [show n % 256 % 128 = n % 128 by omega]) ?_ (by omega) fun a c H6 h6 => ?_
      · unfold room; omega
      refine wp_eq (script_put_k9_eq _ _ _ H6) ?_
      refine w_bind (shr7) ?_
      rw [encN_snoc hc]
      refine ih (n / 128) _ _ H6 ?_ ?_ h6.to
      · rw [Nat.div_lt_iff_lt_mul (by omega)]
        rw [Nat.mul_add, Nat.pow_add] at hn
        exact hn
      · simp only [List.length_append, List.length_cons, List.length_nil]; omega
theorem script_put_law (s : Value) (l : List Nat) (n : Nat) (hn : n < 18446744073709551616) (hl : l.length ≤ 100000) : Sp n_script_put [s, vu n] (ts 1 encB s l) (fun v : Value => v) (fun v => ts 1 encB v (l ++ encN n)) := by
  refine sp_of fun R H h => ?_
  refine wp_of (fun r => script_put_of _ _ H) ?_
  refine wp_eq (script_put_k0_eq _ _ _ H) ?_
  exact put_loop 10 n s l H (Nat.lt_of_lt_of_le hn (by decide)) (by omega) h

theorem rput_loop {R : SP} : ∀ (k n : Nat) (s : Value) (l : List Nat) (H : AH), n < 18446744073709551616 → n < 2 ^ (7 * k) → l.length + k ≤ 1000000 → Holds (ts 1 encB s l * R) H →
    wp (r30_put_k7 s (vu n) (.slice none 0 0) H) fun v' H' => ∃ v : Value, v' = v ∧ Holds (ts 1 encB v (l ++ encN n) * R) H' := by
  intro k
  induction k with
  | zero =>
    intro n s l H hn64 hn hl h
    have hn0 : n = 0 := by simpa using hn
    subst hn0
    refine wp_eq (r30_put_k7_eq _ _ _ H) ?_
    refine w_bind (geq_f (by omega)) ?_
    refine gs ?_
    refine wp_eq (r30_put_e6_0_eq _ _ _ H) ?_
    refine wp_eq (r30_put_k1_eq _ _ _ H) ?_
    refine w_bind (conv_u8) ?_
    refine w_R h fun b0 H5 h5 => ?_
    refine w_tapp (s := s) (l := l) (0 : Nat) h5 rfl ?_ (by omega) fun a c H6 h6 => ?_
    · unfold room; omega
    rw [encN_small (by omega)]
    exact w_ret ⟨_, rfl, h6.to⟩
  | succ k ih =>
    intro n s l H hn64 hn hl h
    refine wp_eq (r30_put_k7_eq _ _ _ H) ?_
    by_cases hc : n < 128
    · refine w_bind (geq_f (by omega)) ?_
      refine gs ?_
      refine wp_eq (r30_put_e6_0_eq _ _ _ H) ?_
      refine wp_eq (r30_put_k1_eq _ _ _ H) ?_
      refine w_bind (conv_u8) ?_
      refine w_R h fun b0 H5 h5 => ?_
      refine w_tapp (s := s) (l := l) (n : Nat) h5 (by rw [show n % 256 = n by omega]) ?_ (by omega) fun a c H6 h6 => ?_
      · unfold room; omega
      rw [encN_small hc]
      exact w_ret ⟨_, rfl, h6.to⟩
    · refine w_bind (geq_t (by omega)) ?_
      refine gs ?_
      refine wp_eq (r30_put_k8_eq _ _ _ H) ?_
      refine w_bind (rem_l 128 (by omega)) ?_
      refine w_bind (bin_add_u (b := 128) (by omega)) ?_
      refine w_bind (conv_u8) ?_
      refine w_R h fun b0 H5 h5 => ?_
      refine w_tapp (s := s) (l := l) (n % 128 + 128 : Nat) h5 (by rw [show (n % 128 + 128) % 256 = n % 128 + 128 by omega]) ?_ (by omega) fun a c H6 h6 => ?_
      · unfold room; omega
      refine w_bind (quo_l 128 (by omega) hn64) ?_
      rw [encN_snoc hc]
      refine ih (n / 128) _ _ H6 (by omega) ?_ ?_ h6.to
      · rw [Nat.div_lt_iff_lt_mul (by omega)]
        rw [Nat.mul_add, Nat.pow_add] at hn
        exact hn
      · simp only [List.length_append, List.length_cons, List.length_nil]; omega
theorem r30_put_law (s : Value) (l : List Nat) (n : Nat) (hn : n < 18446744073709551616) (hl : l.length ≤ 100000) : Sp n_r30_put [s, vu n] (ts 1 encB s l) (fun v : Value => v) (fun v => ts 1 encB v (l ++ encN n)) := by
  refine sp_of fun R H h => ?_
  refine wp_of (fun r => r30_put_of _ _ H) ?_
  refine wp_eq (r30_put_k0_eq _ _ _ H) ?_
  exact rput_loop 10 n s l H hn (Nat.lt_of_lt_of_le hn (by decide)) (by omega) h
end Go.Proofs.YthagelbepgcolaaGreatDoor.Gst
