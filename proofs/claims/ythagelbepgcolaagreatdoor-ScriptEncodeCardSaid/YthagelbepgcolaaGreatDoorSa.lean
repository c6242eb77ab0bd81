/- Whole numbers as values: what the operations on them come to. -/
import Derived.Test.YthagelbepgcolaaGreatDoorMe
namespace Go.Proofs.YthagelbepgcolaaGreatDoor.Gst
open Go Go.RowKit
set_option linter.unusedSimpArgs false


theorem wrap_u (n : Int) : IntKind.wrap .u64 n = n % 18446744073709551616 := by simp [IntKind.wrap, IntKind.bits, IntKind.signed]
theorem wrap_u_of {n : Int} (h0 : 0 ≤ n) (h1 : n < 18446744073709551616) : IntKind.wrap .u64 n = n := by rw [wrap_u]; omega
theorem wrap_i_of {n : Int} (h0 : -9223372036854775808 ≤ n) (h1 : n < 9223372036854775808) : IntKind.wrap .i64 n = n := by
  simp [IntKind.wrap, IntKind.bits, IntKind.signed]
  split <;> omega

theorem ofInt_nat (a : Nat) (h : a < 18446744073709551616) : (BitVec.ofInt 64 (a : Int)).toNat = a := by
  rw [BitVec.toNat_ofInt]
  omega

theorem bits_and_u {a b : Nat} (ha : a < 18446744073709551616) (hb : b < 18446744073709551616) : Go.bits .and .u64 (a : Int) (b : Int) = ((a &&& b : Nat) : Int) := by
  show IntKind.wrap .u64 (((BitVec.ofInt 64 (a : Int) &&& BitVec.ofInt 64 (b : Int)).toNat : Nat) : Int) = _
  rw [BitVec.toNat_and, ofInt_nat a ha, ofInt_nat b hb]
  have : a &&& b ≤ a := Nat.and_le_left
  exact wrap_u_of (by omega) (by omega)
theorem or_lt {a b : Nat} (ha : a < 18446744073709551616) (hb : b < 18446744073709551616) : a ||| b < 18446744073709551616 := Nat.or_lt_two_pow (n := 64) ha hb
theorem bits_or_u {a b : Nat} (ha : a < 18446744073709551616) (hb : b < 18446744073709551616) : Go.bits .or .u64 (a : Int) (b : Int) = ((a ||| b : Nat) : Int) := by
  show IntKind.wrap .u64 (((BitVec.ofInt 64 (a : Int) ||| BitVec.ofInt 64 (b : Int)).toNat : Nat) : Int) = _
  rw [BitVec.toNat_or, ofInt_nat a ha, ofInt_nat b hb]
  have := or_lt ha hb
  exact wrap_u_of (by omega) (by omega)
theorem bits_andNot_u {a b : Nat} (ha : a < 18446744073709551616) (hb : b < 18446744073709551616) : Go.bits .andNot .u64 (a : Int) (b : Int) = ((a &&& (18446744073709551615 - b) : Nat) : Int) := by
  show IntKind.wrap .u64 (((BitVec.ofInt 64 (a : Int) &&& ~~~ BitVec.ofInt 64 (b : Int)).toNat : Nat) : Int) = _
  rw [BitVec.toNat_and, BitVec.toNat_not, ofInt_nat a ha, ofInt_nat b hb]
  have : a &&& (2 ^ 64 - 1 - b) ≤ a := Nat.and_le_left
  exact wrap_u_of (by omega) (by omega)

section
variable {cl : TCls}
theorem bin_and {a b : Nat} (ha : a < 18446744073709551616) (hb : b < 18446744073709551616) : pBin cl .and (vu a) (vu b) = some (vu (a &&& b)) := by simp only [pBin, pInt, if_true, bits_and_u ha hb]
theorem bin_or {a b : Nat} (ha : a < 18446744073709551616) (hb : b < 18446744073709551616) : pBin cl .or (vu a) (vu b) = some (vu (a ||| b)) := by simp only [pBin, pInt, if_true, bits_or_u ha hb]
theorem bin_andNot {a b : Nat} (ha : a < 18446744073709551616) (hb : b < 18446744073709551616) : pBin cl .andNot (vu a) (vu b) = some (vu (a &&& (18446744073709551615 - b))) := by simp only [pBin, pInt, if_true, bits_andNot_u ha hb]
theorem bin_add_u {a b : Nat} (h : a + b < 18446744073709551616) : pBin cl .add (vu a) (vu b) = some (vu (a + b)) := by
  simp only [pBin, pInt, if_true]
  rw [wrap_u_of (by omega) (by omega)]
  simp
theorem bin_mul_u {a b : Nat} : pBin cl .mul (vu a) (vu b) = some (vu (a * b % 18446744073709551616)) := by
  simp only [pBin, pInt, if_true]
  rw [wrap_u]
  simp
theorem bin_sub_u {a b : Nat} (h : b ≤ a) (ha : a < 18446744073709551616) : pBin cl .sub (vu a) (vu b) = some (vu (a - b)) := by
  simp only [pBin, pInt, if_true]
  rw [wrap_u_of (by omega) (by omega)]
  show some (Value.int .u64 ((a : Int) - (b : Int))) = some (Value.int .u64 ((a - b : Nat) : Int))
  rw [Int.ofNat_sub h]
theorem bin_quo_u {a b : Nat} (h : b ≠ 0) (ha : a < 18446744073709551616) : pBin cl .quo (vu a) (vu b) = some (vu (a / b)) := by
  simp only [pBin, pInt, if_true]
  rw [if_neg (by omega)]
  have h1 : (a : Int).tdiv (b : Int) = ((a / b : Nat) : Int) := (Int.ofNat_tdiv a b).symm
  have h2 : a / b ≤ a := Nat.div_le_self a b
  rw [h1]
  generalize a / b = q at h2
  rw [wrap_u_of (by omega) (by omega)]
theorem bin_rem_u {a b : Nat} (h : b ≠ 0) : pBin cl .rem (vu a) (vu b) = some (vu (a % b)) := by
  simp only [pBin, pInt, if_true]
  rw [if_neg (by omega)]
  have h1 : (a : Int).tmod (b : Int) = ((a % b : Nat) : Int) := (Int.ofNat_tmod a b).symm
  rw [h1]
theorem bin_shr_u {a : Nat} {k : IntKind} {n : Nat} (hn : n ≤ 64) : pBin cl .shr (vu a) (.int k (n : Int)) = some (vu (a / 2 ^ n)) := by
  simp only [pBin, pShift]
  rw [if_neg (by omega)]
  simp only [IntKind.bits, Int.toNat_natCast, Nat.min_eq_left hn]
  have : (a : Int).fdiv (2 ^ n) = ((a / 2 ^ n : Nat) : Int) := by
    rw [Int.fdiv_eq_ediv_of_nonneg _ (by exact Int.le_of_lt (Int.pow_pos (by omega)))]
    simp
  rw [this]
theorem bin_shl_u {a : Nat} {k : IntKind} {n : Nat} (hn : n ≤ 64) : pBin cl .shl (vu a) (.int k (n : Int)) = some (vu (a * 2 ^ n % 18446744073709551616)) := by
  simp only [pBin, pShift]
  rw [if_neg (by omega)]
  simp only [IntKind.bits, Int.toNat_natCast, Nat.min_eq_left hn]
  rw [wrap_u]
  simp
theorem bin_add_i {a b : Int} (h0 : -9223372036854775808 ≤ a + b) (h1 : a + b < 9223372036854775808) : pBin cl .add (vi a) (vi b) = some (vi (a + b)) := by simp only [pBin, pInt, if_true, wrap_i_of h0 h1]
theorem bin_sub_i {a b : Int} (h0 : -9223372036854775808 ≤ a - b) (h1 : a - b < 9223372036854775808) : pBin cl .sub (vi a) (vi b) = some (vi (a - b)) := by simp only [pBin, pInt, if_true, wrap_i_of h0 h1]
theorem bin_cmp {k : IntKind} {a b : Int} : pBin cl .lss (.int k a) (.int k b) = some (vb (decide (a < b))) ∧ pBin cl .leq (.int k a) (.int k b) = some (vb (decide (a ≤ b))) ∧ pBin cl .gtr (.int k a) (.int k b) = some (vb (decide (b < a))) ∧
    pBin cl .geq (.int k a) (.int k b) = some (vb (decide (b ≤ a))) ∧ pBin cl .eql (.int k a) (.int k b) = some (vb (a == b)) ∧ pBin cl .neq (.int k a) (.int k b) = some (vb (a != b)) := by
  simp [pBin, pInt]
theorem bin_lss {k : IntKind} {a b : Int} : pBin cl .lss (.int k a) (.int k b) = some (vb (decide (a < b))) := bin_cmp.1
theorem bin_leq {k : IntKind} {a b : Int} : pBin cl .leq (.int k a) (.int k b) = some (vb (decide (a ≤ b))) := bin_cmp.2.1
theorem bin_gtr {k : IntKind} {a b : Int} : pBin cl .gtr (.int k a) (.int k b) = some (vb (decide (b < a))) := bin_cmp.2.2.1
theorem bin_geq {k : IntKind} {a b : Int} : pBin cl .geq (.int k a) (.int k b) = some (vb (decide (b ≤ a))) := bin_cmp.2.2.2.1
theorem bin_eql {k : IntKind} {a b : Int} : pBin cl .eql (.int k a) (.int k b) = some (vb (a == b)) := bin_cmp.2.2.2.2.1
theorem bin_neq {k : IntKind} {a b : Int} : pBin cl .neq (.int k a) (.int k b) = some (vb (a != b)) := bin_cmp.2.2.2.2.2
theorem bin_eqb {a b : Bool} : pBin .bool .eql (vb a) (vb b) = some (vb (a == b)) := rfl
theorem bin_neb {a b : Bool} : pBin .bool .neq (vb a) (vb b) = some (vb (!(a == b))) := rfl
theorem un_not {a : Bool} : pUn .not (vb a) = some (vb (!a)) := rfl
theorem max_i {a b : Int} : pMax [vi a, vi b] = some (vi (max a b)) := by
  simp only [pMax]
  congr 2
  split <;> omega
theorem min_i {a b : Int} : pMin [vi a, vi b] = some (vi (min a b)) := by
  simp only [pMin]
  congr 2
  split <;> omega
theorem condK_b {R : Type} (b : Bool) (x y : Option R) : condK (vb b) x y = if b = true then x else y := by cases b <;> rfl
end
end Go.Proofs.YthagelbepgcolaaGreatDoor.Gst
