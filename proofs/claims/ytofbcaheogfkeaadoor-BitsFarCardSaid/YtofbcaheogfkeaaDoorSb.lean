/- The bits of a number: what the program's functions and the reference's come to. -/
import Derived.Test.YtofbcaheogfkeaaDoorSa
import Derived.Test.YtofbcaheogfkeaaDoorFa
import Derived.Lib.BitFns
import Derived.Lib.TrailingZeros
namespace Go.Proofs.YtofbcaheogfkeaaDoor.Gst
open Go Go.RowKit
set_option linter.unusedSimpArgs false

def maskN (i : Int) : Nat := if 0 ≤ i ∧ i < 64 then 2 ^ i.toNat else 0
def bitN (b : Nat) (i : Int) : Bool := decide (0 ≤ i ∧ i < 64) && b.testBit i.toNat
theorem maskN_lt (i : Int) : maskN i < 18446744073709551616 := by
  unfold maskN
  split
  · have : i.toNat < 64 := by omega
    exact Nat.pow_lt_pow_right (by omega) this
  · omega

theorem mask_spec (i : Int) (H : AH) : FF n_bits_mask [vi i] H = some (vu (maskN i), H) := by
  apply bits_mask_of
  rw [bits_mask_eq]
  simp only [bin_lss, Option.bind_some]
  by_cases h0 : i < 0
  · have : ¬ (0 ≤ i ∧ i < 64) := by omega
    simp [h0, yv, onK, pPick, condK, maskN, this]
  · simp only [h0, decide_false, yv, onK, beq_self_eq_true, Option.bind_some, bin_geq, pPick, if_false, Bool.false_eq_true, condK_b]
    by_cases h1 : 64 ≤ i
    · have : ¬ (0 ≤ i ∧ i < 64) := by omega
      simp [h1, maskN, this]
    · have h2 : 0 ≤ i ∧ i < 64 := by omega
      simp only [h1, decide_false, if_false, Bool.false_eq_true]
      have e : vi i = Value.int .i64 ((i.toNat : Nat) : Int) := by rw [Int.toNat_of_nonneg h2.1]
      rw [e]
      have := bin_shl_u (cl := .other) (a := 1) (k := .i64) (n := i.toNat) (by omega)
      have this : pBin .other .shl (Value.int .u64 1) (Value.int .i64 ((i.toNat : Nat) : Int)) = some (vu (1 * 2 ^ i.toNat % 18446744073709551616)) := this
      rw [this]
      simp only [Option.bind_some, maskN, if_pos h2, Nat.one_mul]
      have hl : 2 ^ i.toNat < 18446744073709551616 := Nat.pow_lt_pow_right (a := 2) (m := i.toNat) (n := 64) (by omega) (by omega)
      rw [Nat.mod_eq_of_lt hl]

theorem with_spec {b : Nat} (hb : b < 18446744073709551616) (i : Int) (H : AH) : FF n_bits_With [vu b, vi i] H = some (vu (b ||| maskN i), H) := by
  apply bits_With_of
  rw [bits_With_eq, mask_spec]
  simp only [Option.bind_some, bin_or hb (maskN_lt i)]
theorem without_spec {b : Nat} (hb : b < 18446744073709551616) (i : Int) (H : AH) : FF n_bits_Without [vu b, vi i] H = some (vu (b &&& (18446744073709551615 - maskN i)), H) := by
  apply bits_Without_of
  rw [bits_Without_eq, mask_spec]
  simp only [Option.bind_some, bin_andNot hb (maskN_lt i)]

theorem and_pow (b i : Nat) : (b &&& 2 ^ i) = if b.testBit i = true then 2 ^ i else 0 := by
  apply Nat.eq_of_testBit_eq
  intro j
  rw [Nat.testBit_and, Nat.testBit_two_pow]
  split
  · rename_i h
    rw [Nat.testBit_two_pow]
    by_cases e : i = j
    · subst e; simp [h]
    · simp [e]
  · rename_i h
    by_cases e : i = j
    · subst e; simp [h]
    · simp [e]
theorem and_mask (b : Nat) (i : Int) : ((b &&& maskN i : Nat) != 0) = bitN b i := by
  unfold maskN bitN
  split
  · rename_i h
    simp only [h, and_self, decide_true, Bool.true_and]
    rw [and_pow]
    have : 0 < 2 ^ i.toNat := Nat.two_pow_pos _
    cases b.testBit i.toNat <;> simp
  · rename_i h
    simp [h]
theorem has_spec {b : Nat} (hb : b < 18446744073709551616) (i : Int) (H : AH) : FF n_bits_Has [vu b, vi i] H = some (vb (bitN b i), H) := by
  apply bits_Has_of
  rw [bits_Has_eq, mask_spec]
  simp only [Option.bind_some, bin_and hb (maskN_lt i), bin_neq]
  have e : ((((b &&& maskN i : Nat) : Int) != 0) : Bool) = bitN b i := by
    rw [← and_mask]
    generalize (b &&& maskN i : Nat) = n
    cases n with
    | zero => rfl
    | succ n =>
      have h1 : ((n + 1 : Nat) : Int) ≠ 0 := by omega
      have h2 : (n + 1) ≠ 0 := by omega
      rw [bne_iff_ne.2 h1, bne_iff_ne.2 h2]
  rw [e]

theorem testBit_div (b k n : Nat) : (b / 2 ^ k).testBit n = b.testBit (k + n) := by rw [← Nat.shiftRight_eq_div_pow, Nat.testBit_shiftRight]

/-- The reference's Bit: it halves till the place is come to. -/
theorem bit_loop {b : Nat} (hb : b < 18446744073709551616) (i : Int) (x4 : Value) (H : AH) : ∀ (n k : Nat), k + n = 64 → i ≥ k ∨ i < 0 ∨ i ≥ 64 → weighbridgeref01_Bit_k4 (vu (b / 2 ^ k)) (vi i) x4 (vi k) H = some (vb (bitN b i), H) := by
  intro n
  induction n with
  | zero =>
    intro k hk hi
    rw [weighbridgeref01_Bit_k4_eq]
    have h1 : ¬ ((k : Int) < 64) := by omega
    have h2 : ¬ (0 ≤ i ∧ i < 64) := by omega
    simp only [bin_lss, Option.bind_some, condK_b, h1, decide_false, if_false, Bool.false_eq_true]
    rw [weighbridgeref01_Bit_e3_0_eq, weighbridgeref01_Bit_k1_eq]
    simp [bitN, h2]
  | succ n ih =>
    intro k hk hi
    rw [weighbridgeref01_Bit_k4_eq]
    have h1 : (k : Int) < 64 := by omega
    simp only [bin_lss, Option.bind_some, condK_b, h1, decide_true, if_true]
    rw [weighbridgeref01_Bit_k5_eq]
    simp only [bin_eql, Option.bind_some, condK_b]
    by_cases e : (k : Int) = i
    · have h2 : 0 ≤ i ∧ i < 64 := by omega
      have e2 : i.toNat = k := by omega
      have r : pBin .other .rem (vu (b / 2 ^ k)) (Value.int .u64 2) = some (vu (b / 2 ^ k % 2)) := bin_rem_u (cl := .other) (a := b / 2 ^ k) (b := 2) (by omega)
      simp only [e, beq_self_eq_true, if_true]
      rw [r]
      simp only [Option.bind_some, bin_eql]
      have : (((b / 2 ^ k % 2 : Nat) : Int) == 1) = bitN b i := by
        unfold bitN
        simp only [h2, and_self, decide_true, Bool.true_and, e2]
        have := Nat.testBit_zero (b / 2 ^ k)
        rw [testBit_div] at this
        rw [show k = k + 0 from rfl, this]
        by_cases h : b / 2 ^ k % 2 = 1
        · simp [h]
        · have : b / 2 ^ k % 2 = 0 := by omega
          simp [this]
      rw [this]
    · have : ((k : Int) == i) = false := by simpa using e
      have q : pBin .other .quo (vu (b / 2 ^ k)) (Value.int .u64 2) = some (vu (b / 2 ^ k / 2)) := bin_quo_u (cl := .other) (a := b / 2 ^ k) (b := 2) (by omega) (Nat.lt_of_le_of_lt (Nat.div_le_self ..) hb)
      simp only [this, if_false, Bool.false_eq_true]
      rw [q]
      simp only [Option.bind_some]
      rw [weighbridgeref01_Bit_k6_eq, bin_add_i (by omega) (by omega)]
      simp only [Option.bind_some]
      rw [Nat.div_div_eq_div_mul, ← Nat.pow_succ]
      have := ih (k + 1) (by omega) (by omega)
      simpa using this
theorem bit_spec {b : Nat} (hb : b < 18446744073709551616) (i : Int) (H : AH) : FF n_weighbridgeref01_Bit [vu b, vi i] H = some (vb (bitN b i), H) := by
  apply weighbridgeref01_Bit_of
  rw [weighbridgeref01_Bit_eq, weighbridgeref01_Bit_k0_eq, weighbridgeref01_Bit_k2_eq]
  have := bit_loop hb i (Value.bool false) H 64 0 rfl (by omega)
  simpa using this
end Go.Proofs.YtofbcaheogfkeaaDoor.Gst
