/- Go's own TrailingZeros64 and Len64; the program's Next and Last. -/
import Derived.Test.YtofbcaheogfkeaaDoorSc
namespace Go.Proofs.YtofbcaheogfkeaaDoor.Gst
open Go Go.RowKit
set_option linter.unusedSimpArgs false

/-- The table that Go's library lays. -/
def Tab (H : AH) : Prop := H.get 0 = some (.cells true (Go.Lib.deBruijn64tab.map fun (k : Nat) => Value.int .u8 (k : Int)))
theorem Tab.keep {H H' : AH} (h : Tab H) (k : Keeps H H') : Tab H' := k.get h

theorem tab_len : Go.Lib.deBruijn64tab.length = 64 := by decide

theorem tab_at (t : List Nat) (i c : Nat) (hi : i < t.length) (hv : t.getD i 0 = c) : (t.map fun (k : Nat) => Value.int .u8 (k : Int))[i]? = some (Value.int .u8 (c : Int)) := by
  rw [List.getElem?_map, List.getElem?_eq_getElem hi]
  rw [List.getD_eq_getElem?_getD, List.getElem?_eq_getElem hi] at hv
  simp only [Option.getD_some] at hv
  rw [Option.map_some, hv]

theorem ld1_of {H : AH} {b : Nat} {ro : Bool} {cs : List Value} {i : Nat} {v : Value} (h : H.get b = some (.cells ro cs)) (hi : cs[i]? = some v) : pLd1 (Value.pointer (some ⟨b, i, none⟩)) H = some v := by
  simp only [pLd1, pAt, pCells, Option.bind_some, h]
  exact hi

theorem idxA_of {b i len : Nat} {k : IntKind} (h : i < len) : pIdxA len 1 (Value.pointer (some ⟨b, 0, none⟩)) (Value.int k (i : Int)) = some (.pointer (some ⟨b, i, none⟩)) := by
  simp only [pIdxA]
  rw [if_pos (by omega)]
  simp

theorem ctz64_spec {b : Nat} (h0 : b ≠ 0) (hb : b < 18446744073709551616) {H : AH} (hT : Tab H) : FF n_math_bits_TrailingZeros64 [vu b] H = some (vi (Go.Lib.ctz 64 b : Nat), H) := by
  have hb2 : b < 2 ^ 64 := by simp only [Nat.reducePow]; exact hb
  obtain ⟨hl, hc⟩ := Go.Lib.lowest_bit 64 b h0 hb2
  simp only [Nat.reducePow] at hl
  obtain ⟨hi, hv⟩ := Go.Lib.deBruijn64_at _ hc
  generalize Go.Lib.ctz 64 b = c at hl hc hi hv
  apply math_bits_TrailingZeros64_of
  rw [math_bits_TrailingZeros64_eq]
  have e0 : ((b : Int) == 0) = false := by simp; omega
  have n1 : pUn .neg (vu b) = some (vu (18446744073709551616 - b)) := by
    simp only [pUn]
    rw [wrap_u]
    have : (0 - (b : Int)) % 18446744073709551616 = ((18446744073709551616 - b : Nat) : Int) := by omega
    rw [this]
  have a1 : pBin .other .and (vu b) (vu (18446744073709551616 - b)) = some (vu (2 ^ c)) := by rw [bin_and hb (by omega), hl]
  have mulc : ∀ (a n : Nat), pBin .other .mul (vu a) (Value.int .u64 (n : Int)) = some (vu (a * n % 18446744073709551616)) := fun a n => bin_mul_u
  have shrc : ∀ (a n : Nat), n ≤ 64 → pBin .other .shr (vu a) (Value.int .u64 (n : Int)) = some (vu (a / 2 ^ n)) := fun a n hn => bin_shr_u hn
  have m1 := mulc (2 ^ c) 285870213051353865
  generalize 2 ^ c * 285870213051353865 % 18446744073709551616 = p at hi hv m1
  have s1 := shrc p 58 (by omega)
  simp only [Nat.reducePow] at s1
  generalize p / 288230376151711744 = i at hi hv s1
  have hget := tab_at Go.Lib.deBruijn64tab i c (by rw [tab_len]; exact hi) hv
  have c1 : ((285870213051353865 : Nat) : Int) = 285870213051353865 := by simp
  have c2 : ((58 : Nat) : Int) = 58 := by simp
  rw [c1] at m1
  rw [c2] at s1
  rw [bin_eql, Option.bind_some, condK_b, e0, if_neg (by simp), n1, Option.bind_some, a1, Option.bind_some, m1, Option.bind_some, s1, Option.bind_some]
  have ix := idxA_of (b := 0) (k := .u64) (i := i) (len := 64) hi
  rw [ix, Option.bind_some, ld1_of hT hget, Option.bind_some]
  show (some (Value.int .i64 (IntKind.wrap .i64 (c : Int)))).bind (fun v7 => some (v7, H)) = _
  rw [wrap_i_of (by omega) (by omega)]
  rfl

/-- The next place from one on at which b is 1: or there is none. -/
def IsNext (b : Nat) (at' r : Int) : Prop := (r = -1 ∧ ∀ i, at' ≤ i → bitN b i = false) ∨ (0 ≤ r ∧ at' ≤ r ∧ bitN b r = true ∧ ∀ i, at' ≤ i → i < r → bitN b i = false)
def IsLast (b : Nat) (at' r : Int) : Prop := (r = -1 ∧ ∀ i, i ≤ at' → bitN b i = false) ∨ (0 ≤ r ∧ r ≤ at' ∧ bitN b r = true ∧ ∀ i, i ≤ at' → r < i → bitN b i = false)
theorem IsNext.uniq {b : Nat} {a r r' : Int} (h : IsNext b a r) (k : IsNext b a r') : r = r' := by
  rcases h with ⟨h1, h2⟩ | ⟨h0, h1, h2, h3⟩ <;> rcases k with ⟨k1, k2⟩ | ⟨k0, k1, k2, k3⟩
  · omega
  · rw [h2 r' k1] at k2; cases k2
  · rw [k2 r h1] at h2; cases h2
  · rcases Int.lt_trichotomy r r' with e | e | e
    · rw [k3 r h1 e] at h2; cases h2
    · exact e
    · rw [h3 r' k1 e] at k2; cases k2
theorem IsLast.uniq {b : Nat} {a r r' : Int} (h : IsLast b a r) (k : IsLast b a r') : r = r' := by
  rcases h with ⟨h1, h2⟩ | ⟨h0, h1, h2, h3⟩ <;> rcases k with ⟨k1, k2⟩ | ⟨k0, k1, k2, k3⟩
  · omega
  · rw [h2 r' k1] at k2; cases k2
  · rw [k2 r h1] at h2; cases h2
  · rcases Int.lt_trichotomy r r' with e | e | e
    · rw [h3 r' k1 e] at k2; cases k2
    · exact e
    · rw [k3 r h1 e] at h2; cases h2

theorem bitN_range {b : Nat} {i : Int} (h : bitN b i = true) : 0 ≤ i ∧ i < 64 := by
  unfold bitN at h
  simp only [Bool.and_eq_true, decide_eq_true_eq] at h
  exact h.1
theorem bitN_nat {b k : Nat} (hk : k < 64) : bitN b (k : Int) = b.testBit k := by
  have : (0 : Int) ≤ k ∧ (k : Int) < 64 := by omega
  simp [bitN, this]
theorem bitN_out {b : Nat} {i : Int} (h : ¬ (0 ≤ i ∧ i < 64)) : bitN b i = false := by simp [bitN, h]

/-- The bits of b from m on. -/
theorem high_bits (b m : Nat) (hm : m < 64) (hb : b < 18446744073709551616) (i : Nat) : (b &&& (18446744073709551616 - 2 ^ m)).testBit i = (b.testBit i && decide (m ≤ i)) := by
  rw [Nat.testBit_and]
  have h1 : 18446744073709551616 - 2 ^ m = 2 ^ 64 - (2 ^ m - 1 + 1) := by
    have : 0 < 2 ^ m := Nat.two_pow_pos m
    omega
  have h2 : 2 ^ m - 1 < 2 ^ 64 := by
    have : 2 ^ m < 2 ^ 64 := Nat.pow_lt_pow_right (by omega) hm
    omega
  rw [h1, Nat.testBit_two_pow_sub_succ h2, Nat.testBit_two_pow_sub_one]
  by_cases hi : i < 64
  · by_cases hmi : m ≤ i
    · have : ¬ i < m := by omega
      simp [hi, hmi, this]
    · have : i < m := by omega
      simp [hmi, this]
  · have : b.testBit i = false := Nat.testBit_lt_two_pow (Nat.lt_of_lt_of_le (show b < 2 ^ 64 from hb) (Nat.pow_le_pow_right (by omega) (by omega)))
    simp [this]

theorem ctz_testBit {x : Nat} (h0 : x ≠ 0) (hx : x < 18446744073709551616) : Go.Lib.ctz 64 x < 64 ∧ x.testBit (Go.Lib.ctz 64 x) = true ∧ ∀ i, i < Go.Lib.ctz 64 x → x.testBit i = false := by
  obtain ⟨m, hm, hk⟩ := Go.Lib.ctzFrom_spec 64 x (by omega) hx
  have e : Go.Lib.ctz 64 x = Go.Lib.ctzFrom 64 x := by simp [Go.Lib.ctz, h0]
  rw [e]
  generalize Go.Lib.ctzFrom 64 x = c at hm hk
  subst hm
  refine ⟨hk, ?_, fun i hi => ?_⟩
  · rw [Nat.testBit_two_pow_mul]
    simp [Nat.testBit_zero]
  · rw [Nat.testBit_two_pow_mul]
    simp; omega

theorem next_spec {b : Nat} (hb : b < 18446744073709551616) (a : Int) {H : AH} (hT : Tab H) : ∃ r, FF n_bits_Next [vu b, vi a] H = some (vi r, H) ∧ IsNext b a r := by
  by_cases h64 : 64 ≤ a
  · refine ⟨-1, ?_, .inl ⟨rfl, fun i hi => bitN_out (by omega)⟩⟩
    apply bits_Next_of
    rw [bits_Next_eq]
    simp [bin_geq, condK_b, h64]
  · obtain ⟨m, hm⟩ : ∃ m : Nat, max a 0 = (m : Int) := ⟨(max a 0).toNat, by omega⟩
    have hm64 : m < 64 := by omega
    have hpow : 2 ^ m < 18446744073709551616 := Nat.pow_lt_pow_right (a := 2) (m := m) (n := 64) (by omega) hm64
    have hpos : 0 < 2 ^ m := Nat.two_pow_pos m
    have sh : pBin .other .shl (Value.int .u64 18446744073709551615) (vi (m : Int)) = some (vu (18446744073709551616 - 2 ^ m)) := by
      have : pBin .other .shl (Value.int .u64 18446744073709551615) (vi (m : Int)) = some (vu (18446744073709551615 * 2 ^ m % 18446744073709551616)) := bin_shl_u (cl := .other) (a := 18446744073709551615) (k := .i64) (n := m) (by omega)
      rw [this]
      have e : 18446744073709551615 * 2 ^ m = (18446744073709551616 - 2 ^ m) + (2 ^ m - 1) * 18446744073709551616 := by
        generalize 2 ^ m = p at hpow hpos
        obtain ⟨q, rfl⟩ : ∃ q, p = q + 1 := ⟨p - 1, by omega⟩
        omega
      rw [e, Nat.add_mul_mod_self_right, Nat.mod_eq_of_lt (by omega)]
    have hx := high_bits b m hm64 hb
    have an : pBin .other .and (vu b) (vu (18446744073709551616 - 2 ^ m)) = some (vu (b &&& (18446744073709551616 - 2 ^ m))) := bin_and hb (by omega)
    have hxb : b &&& (18446744073709551616 - 2 ^ m) < 18446744073709551616 := Nat.lt_of_le_of_lt Nat.and_le_left hb
    generalize b &&& (18446744073709551616 - 2 ^ m) = x at hx an hxb
    have bit : ∀ i : Int, a ≤ i → bitN b i = bitN x i := by
      intro i hi
      by_cases hr : 0 ≤ i ∧ i < 64
      · unfold bitN
        rw [hx]
        have : m ≤ i.toNat := by omega
        simp [this]
      · rw [bitN_out hr, bitN_out hr]
    by_cases h0 : x = 0
    · refine ⟨-1, ?_, .inl ⟨rfl, fun i hi => ?_⟩⟩
      · apply bits_Next_of
        rw [bits_Next_eq, max_i, hm]
        simp only [bin_geq, condK_b, h64, decide_false, Option.bind_some, if_false, Bool.false_eq_true, sh, an, bin_eql, h0]
        simp
      · rw [bit i hi, h0]; unfold bitN; simp
    · obtain ⟨c1, c2, c3⟩ := ctz_testBit h0 hxb
      have hmc : m ≤ Go.Lib.ctz 64 x := by
        have := hx (Go.Lib.ctz 64 x)
        rw [c2] at this
        simp only [Bool.eq_and_self, true_eq_decide_iff, Bool.true_eq, Bool.and_eq_true, decide_eq_true_eq] at this
        exact this.2
      refine ⟨(Go.Lib.ctz 64 x : Nat), ?_, .inr ⟨by omega, by omega, ?_, fun i hi hlt => ?_⟩⟩
      · apply bits_Next_of
        rw [bits_Next_eq, max_i, hm]
        have e0 : ((x : Int) == 0) = false := by simp; omega
        simp only [bin_geq, condK_b, h64, decide_false, Option.bind_some, if_false, Bool.false_eq_true, sh, an, bin_eql, e0, ctz64_spec h0 hxb hT]
      · rw [bit _ (by omega), bitN_nat c1]; exact c2
      · rw [bit i hi]
        by_cases hr : 0 ≤ i ∧ i < 64
        · unfold bitN
          rw [c3 i.toNat (by omega)]; simp
        · exact bitN_out hr
end Go.Proofs.YtofbcaheogfkeaaDoor.Gst
