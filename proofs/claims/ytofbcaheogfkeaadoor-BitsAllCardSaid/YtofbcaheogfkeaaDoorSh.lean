/- The six statements on bits, in plain Lean. -/
import Derived.Test.YtofbcaheogfkeaaDoorSg
namespace Go.Proofs.YtofbcaheogfkeaaDoor.Gst
open Go Go.RowKit
set_option linter.unusedSimpArgs false
set_option maxRecDepth 100000

theorem onesOf_len (b : Nat) : (onesOf b).length ≤ 64 := onesFrom_len b 64 0
theorem onesOf_mem {b : Nat} {x : Int} : x ∈ onesOf b ↔ bitN b x = true := by
  unfold onesOf
  rw [onesFrom_mem]
  constructor
  · rintro ⟨i, rfl, _, h2, h3⟩
    rw [bitN_nat (by omega)]; exact h3
  · intro h
    obtain ⟨h1, h2⟩ := bitN_range h
    have e : x = ((x.toNat : Nat) : Int) := by omega
    refine ⟨x.toNat, e, by omega, by omega, ?_⟩
    rw [← bitN_nat (by omega), ← e]; exact h

theorem bitsAll {b : Nat} (hb : b < 18446744073709551616) {H : AH} (hT : Tab H) : ∃ H', FF n_weighbridgelaw03_BitsAll [vu b] H = some (vb true, H') := by
  obtain ⟨s, H1, e1, k1, o1⟩ := bits_spec hb H
  obtain ⟨H2, e2, k2⟩ := awake_spec (hT.keep k1)
  obtain ⟨t, H3, e3, k3, o3⟩ := all_spec hb ((hT.keep k1).keep k2)
  have l64 := onesOf_len b
  have pl := plain_spec o3.ints (o1.keep (k2.trans k3)).ints (by omega)
  have m := many_spec hb H3
  refine ⟨H3, ?_⟩
  apply weighbridgelaw03_BitsAll_of
  rw [weighbridgelaw03_BitsAll_eq, e1, Option.bind_some]
  simp only
  rw [e2, Option.bind_some]
  simp only
  rw [onK_tt, Option.bind_some, onK_tt, e3, Option.bind_some, onK_tt, Option.bind_some]
  simp only
  rw [onK_tt, pl, Option.bind_some, pick_t, Option.bind_some]
  simp only [decide_true]
  rw [onK_tt, Option.bind_some, onK_tt, m, Option.bind_some, onK_tt, Option.bind_some, onK_tt, ints_len o1.ints, Option.bind_some, onK_tt]
  simp only
  rw [bin_eql]
  simp [pPick]

theorem mask_bit (i : Int) (j : Nat) : (maskN i).testBit j = decide (i = j ∧ j < 64) := by
  unfold maskN
  split
  · rw [Nat.testBit_two_pow]
    rename_i h
    congr 1
    apply propext
    omega
  · rename_i h
    have : ¬ (i = j ∧ j < 64) := by omega
    simp [this]
theorem inv_bit (m j : Nat) (hm : m < 18446744073709551616) : (18446744073709551615 - m).testBit j = (decide (j < 64) && !m.testBit j) := by
  have h1 : 18446744073709551615 - m = 2 ^ 64 - (m + 1) := by simp only [Nat.reducePow]; omega
  rw [h1, Nat.testBit_two_pow_sub_succ (by simpa using hm)]
theorem low_bit {b j : Nat} (hb : b < 18446744073709551616) (h : b.testBit j = true) : j < 64 := by
  apply Decidable.byContradiction
  intro h'
  have : b.testBit j = false := Nat.testBit_lt_two_pow (Nat.lt_of_lt_of_le (show b < 2 ^ 64 from hb) (Nat.pow_le_pow_right (by omega) (by omega)))
  rw [this] at h; cases h
theorem bitN_at {b : Nat} {i : Int} {j : Nat} (h : i = j) (hj : j < 64) : bitN b i = b.testBit j := by subst h; exact bitN_nat hj
/-- A bit that is not there, taken away. -/
theorem clear_mask {b : Nat} {i : Int} (hb : b < 18446744073709551616) (h : bitN b i = false) : b &&& (18446744073709551615 - maskN i) = b := by
  apply Nat.eq_of_testBit_eq
  intro j
  rw [Nat.testBit_and, inv_bit _ _ (maskN_lt i), mask_bit]
  by_cases hj : b.testBit j = true
  · have := low_bit hb hj
    have h2 : ¬ (i = j ∧ j < 64) := by
      rintro ⟨e, h3⟩
      rw [bitN_at e h3, hj] at h; cases h
    rw [hj, decide_eq_true this, decide_eq_false h2]; rfl
  · simp [hj]
theorem or_mask {b : Nat} {i : Int} (h : bitN b i = true) : b ||| maskN i = b := by
  apply Nat.eq_of_testBit_eq
  intro j
  rw [Nat.testBit_or, mask_bit]
  by_cases hj : i = j ∧ j < 64
  · rw [bitN_at hj.1 hj.2] at h
    simp [h]
  · simp [hj]
theorem add_disj : ∀ (n a b : Nat), a < 2 ^ n → (∀ j, (a.testBit j && b.testBit j) = false) → a + b = a ||| b := by
  intro n
  induction n with
  | zero => intro a b ha _; have : a = 0 := by simpa using ha
            subst this; simp
  | succ n ih =>
    intro a b ha h
    have h0 := h 0
    rw [Nat.testBit_zero, Nat.testBit_zero] at h0
    have hd := ih (a / 2) (b / 2) (by rw [Nat.pow_succ] at ha; omega) (fun j => by
      have := h (j + 1)
      rwa [Nat.testBit_succ, Nat.testBit_succ] at this)
    have e1 : (a ||| b) / 2 = a / 2 ||| b / 2 := by
      have := Nat.or_div_two_pow (a := a) (b := b) (n := 1)
      simpa using this
    have e2 : (a ||| b) % 2 = if a % 2 = 1 ∨ b % 2 = 1 then 1 else 0 := by
      have h3 := Nat.testBit_or a b 0
      rw [Nat.testBit_zero, Nat.testBit_zero, Nat.testBit_zero] at h3
      by_cases c : a % 2 = 1 ∨ b % 2 = 1
      · rw [if_pos c]
        have : (decide (a % 2 = 1) || decide (b % 2 = 1)) = true := by simpa using c
        rw [this] at h3
        simpa using h3
      · rw [if_neg c]
        have : (decide (a % 2 = 1) || decide (b % 2 = 1)) = false := by simp only [Bool.or_eq_false_iff, decide_eq_false_iff_not]; omega
        rw [this] at h3
        have : ¬ ((a ||| b) % 2 = 1) := by simpa using h3
        omega
    have h0' : ¬ (a % 2 = 1 ∧ b % 2 = 1) := by
      rintro ⟨x, y⟩
      simp [x, y] at h0
    split at e2 <;> omega
theorem add_mask (b : Nat) (i : Int) (h : bitN b i = false) : b ||| maskN i = b + maskN i := by
  rw [Nat.add_comm, Nat.or_comm]
  symm
  apply add_disj 64 _ _ (by simpa using maskN_lt i)
  intro j
  rw [mask_bit]
  by_cases hj : i = j ∧ j < 64
  · rw [bitN_at hj.1 hj.2] at h
    simp [h]
  · simp [hj]
theorem set_mask {b : Nat} {i : Int} (hb : b < 18446744073709551616) (h : bitN b i = true) : maskN i ≤ b ∧ b &&& (18446744073709551615 - maskN i) = b - maskN i := by
  have hn : bitN (b &&& (18446744073709551615 - maskN i)) i = false := by
    obtain ⟨h1, h2⟩ := bitN_range h
    have e : i = ((i.toNat : Nat) : Int) := by omega
    rw [bitN_at e (by omega), Nat.testBit_and, inv_bit _ _ (maskN_lt i), mask_bit]
    have hh : i = ((i.toNat : Nat) : Int) ∧ i.toNat < 64 := ⟨e, by omega⟩
    rw [decide_eq_true hh]
    simp only [Bool.not_true, Bool.and_false]
  have h1 := add_mask _ i hn
  have h2 : (b &&& (18446744073709551615 - maskN i)) ||| maskN i = b := by
    apply Nat.eq_of_testBit_eq
    intro j
    rw [Nat.testBit_or, Nat.testBit_and, inv_bit _ _ (maskN_lt i), mask_bit]
    by_cases hj : i = j ∧ j < 64
    · rw [bitN_at hj.1 hj.2] at h
      rw [h, decide_eq_true hj, Bool.or_true]
    · rw [decide_eq_false hj]
      by_cases hb2 : b.testBit j = true
      · rw [hb2, decide_eq_true (low_bit hb hb2)]; rfl
      · have hb2 : b.testBit j = false := by simpa using hb2
        rw [hb2]; rfl
  rw [h2] at h1
  omega

theorem bitsOne {b : Nat} (hb : b < 18446744073709551616) (i : Int) {H : AH} (hT : Tab H) : ∃ H', FF n_weighbridgelaw03_BitsOne [vu b, vi i] H = some (vb true, H') := by
  obtain ⟨H2, e2, k2⟩ := awake_spec hT
  have o := one_spec i H
  have bt := bit_spec hb i H
  have ml := maskN_lt i
  have sub : bitN b i = true → pBin .other .sub (vu b) (vu (maskN i)) = some (vu (b &&& (18446744073709551615 - maskN i))) := by
    intro h
    obtain ⟨h1, h2⟩ := set_mask hb h
    rw [bin_sub_u h1 hb, h2]
  have add : maskN i ≠ 0 → bitN b i = false → pBin .other .add (vu b) (vu (maskN i)) = some (vu (b ||| maskN i)) := by
    intro h0 h
    have e := add_mask b i h
    rw [bin_add_u (by rw [← e]; exact or_lt hb ml), e]
  have fin : ∀ x4, weighbridgelaw03_BitsOne_k2 (vu b) (vi i) x4 (vu (b ||| maskN i)) (vu (b &&& (18446744073709551615 - maskN i))) H = some (vb true, H2) := by
    intro x4
    rw [weighbridgelaw03_BitsOne_k2_eq, e2]
    simp only [onK_tt, pick_t, Option.bind_some, with_spec hb, without_spec hb, has_spec hb, bit_spec hb, bin_eql, bin_eqb, beq_self_eq_true]
  have k1 : ∀ x4, weighbridgelaw03_BitsOne_k1 (vu b) (vi i) x4 (vu (b ||| maskN i)) (vu b) H = some (vb true, H2) := by
    intro x4
    rw [weighbridgelaw03_BitsOne_k1_eq, bt, Option.bind_some]
    simp only [condK_b]
    by_cases h : bitN b i = true
    · rw [if_pos h, o, Option.bind_some]
      simp only
      rw [sub h, Option.bind_some, fin]
    · rw [if_neg h]
      have e : b = b &&& (18446744073709551615 - maskN i) := (clear_mask hb (by simpa using h)).symm
      have := fin x4
      rw [← e] at this
      exact this
  refine ⟨H2, ?_⟩
  apply weighbridgelaw03_BitsOne_of
  rw [weighbridgelaw03_BitsOne_eq, weighbridgelaw03_BitsOne_k0_eq, o, Option.bind_some]
  simp only
  rw [bin_gtr, Option.bind_some]
  have same : ∀ x4, (b ||| maskN i = b) → weighbridgelaw03_BitsOne_k1 (vu b) (vi i) x4 (vu b) (vu b) H = some (vb true, H2) := by
    intro x4 h
    have := k1 x4
    rwa [h] at this
  by_cases h0 : maskN i = 0
  · rw [h0] at same ⊢
    simp only [onK_ft, Option.bind_some, Int.natCast_zero, Int.lt_irrefl, decide_false, pick_f, cond_f]
    exact same _ (by simp)
  · have : (0 : Int) < ((maskN i : Nat) : Int) := by omega
    simp only [this, decide_true, onK_tt, Option.bind_some, bt, pUn, pick_t, condK_b]
    by_cases h : bitN b i = true
    · rw [h]
      simp only [Bool.not_true, Bool.false_eq_true, if_false]
      exact same _ (or_mask h)
    · have h : bitN b i = false := by simpa using h
      rw [h]
      simp only [Bool.not_false, if_true, o, Option.bind_some]
      rw [add h0 h, Option.bind_some, k1]
end Go.Proofs.YtofbcaheogfkeaaDoor.Gst
