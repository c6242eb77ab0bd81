/- Go's own Len64; the program's Last. -/
import Derived.Test.YtofbcaheogfkeaaDoorSd
namespace Go.Proofs.YtofbcaheogfkeaaDoor.Gst
open Go Go.RowKit
set_option linter.unusedSimpArgs false
set_option maxRecDepth 100000

def lenBytes : ByteArray := ⟨#[0, 1, 2, 2, 3, 3, 3, 3, 4, 4, 4, 4, 4, 4, 4, 4, 5, 5, 5, 5, 5, 5, 5, 5, 5, 5, 5, 5, 5, 5, 5, 5, 6, 6, 6, 6, 6, 6, 6, 6, 6, 6, 6, 6, 6, 6, 6, 6, 6, 6, 6, 6, 6, 6, 6, 6, 6, 6, 6, 6, 6, 6, 6, 6, 7, 7, 7, 7, 7, 7, 7, 7, 7, 7, 7, 7, 7, 7, 7, 7, 7, 7, 7, 7, 7, 7, 7, 7, 7, 7, 7, 7, 7, 7, 7, 7, 7, 7, 7, 7, 7, 7, 7, 7, 7, 7, 7, 7, 7, 7, 7, 7, 7, 7, 7, 7, 7, 7, 7, 7, 7, 7, 7, 7, 7, 7, 7, 7, 8, 8, 8, 8, 8, 8, 8, 8, 8, 8, 8, 8, 8, 8, 8, 8, 8, 8, 8, 8, 8, 8, 8, 8, 8, 8, 8, 8, 8, 8, 8, 8, 8, 8, 8, 8, 8, 8, 8, 8, 8, 8, 8, 8, 8, 8, 8, 8, 8, 8, 8, 8, 8, 8, 8, 8, 8, 8, 8, 8, 8, 8, 8, 8, 8, 8, 8, 8, 8, 8, 8, 8, 8, 8, 8, 8, 8, 8, 8, 8, 8, 8, 8, 8, 8, 8, 8, 8, 8, 8, 8, 8, 8, 8, 8, 8, 8, 8, 8, 8, 8, 8, 8, 8, 8, 8, 8, 8, 8, 8, 8, 8, 8, 8, 8, 8, 8, 8, 8, 8, 8, 8, 8, 8, 8, 8, 8, 8]⟩
theorem len_k3 (x0 x2 : Value) (H : AH) : math_bits_Len64_k3 x0 x2 H = (pConv (some .u8) x0).bind fun v4 => (pIndexS (Value.string lenBytes) v4).bind fun v5 => (pConv (some .i64) v5).bind fun v6 => (pBin .other .add x2 v6).bind fun v7 => some (v7, H) :=
  math_bits_Len64_k3_eq x0 x2 H
theorem lenBytes_at : ∀ n : Fin 256, (lenBytes[n.val]?).map (fun b => b.toNat) = some (Go.Lib.bitLen n.val) := by decide +kernel
theorem lenIdx {x : Nat} (hx : x < 256) : pIndexS (Value.string lenBytes) (.int .u8 (x : Int)) = some (.int .u8 ((Go.Lib.bitLen x : Nat) : Int)) := by
  have h := lenBytes_at ⟨x, hx⟩
  simp only at h
  simp only [pIndexS, Int.toNat_natCast]
  rw [if_pos (by omega)]
  obtain ⟨b, hb, e⟩ := Option.map_eq_some_iff.1 h
  rw [hb, Option.map_some, e]
theorem conv_u8 {x : Nat} (hx : x < 256) : pConv (some .u8) (vu x) = some (.int .u8 (x : Int)) := by
  simp only [pConv]
  have : IntKind.wrap .u8 (x : Int) = x := by
    simp [IntKind.wrap, IntKind.bits, IntKind.signed]
    omega
  rw [this]
theorem conv_i64 {k : IntKind} {x : Int} (h0 : -9223372036854775808 ≤ x) (h1 : x < 9223372036854775808) : pConv (some .i64) (.int k x) = some (vi x) := by
  simp only [pConv]
  rw [wrap_i_of h0 h1]

theorem bitLen_256 {x : Nat} (hx : x < 256) : Go.Lib.bitLen x ≤ 8 := Go.Lib.bitLen_le x 8 (by omega) (by simpa using hx)

theorem len3 {x n : Nat} (hx : x < 256) (hn : n ≤ 64) (H : AH) : math_bits_Len64_k3 (vu x) (vi (n : Int)) H = some (vi ((n + Go.Lib.bitLen x : Nat) : Int), H) := by
  have := bitLen_256 hx
  rw [len_k3, conv_u8 hx, Option.bind_some, lenIdx hx, Option.bind_some, conv_i64 (by omega) (by omega), Option.bind_some, bin_add_i (by omega) (by omega), Option.bind_some]
  congr 3
theorem shr_lit {k : IntKind} (a n : Nat) (hn : n ≤ 64) : pBin .other .shr (vu a) (.int k (n : Int)) = some (vu (a / 2 ^ n)) := bin_shr_u hn
theorem geq_u {a b : Nat} : pBin .other .geq (vu a) (vu b) = some (vb (decide (b ≤ a))) := by
  rw [bin_geq]
  congr 2
  simp

theorem len2 {x n : Nat} (hx : x < 65536) (hn : n ≤ 48) (H : AH) : math_bits_Len64_k2 (vu x) (vi (n : Int)) H = some (vi ((n + Go.Lib.bitLen x : Nat) : Int), H) := by
  rw [math_bits_Len64_k2_eq]
  have g := geq_u (a := x) (b := 256)
  have s := shr_lit (k := .u64) x 8 (by omega)
  simp only [Nat.reducePow] at s
  have g : pBin .other .geq (vu x) (Value.int .u64 256) = some (vb (decide (256 ≤ x))) := g
  have s : pBin .other .shr (vu x) (Value.int .u64 8) = some (vu (x / 256)) := s
  rw [g, Option.bind_some, condK_b]
  by_cases h : 256 ≤ x
  · rw [decide_eq_true h, if_pos rfl, s, Option.bind_some, bin_add_i (by omega) (by omega), Option.bind_some]
    have := len3 (x := x / 256) (n := n + 8) (by omega) (by omega) H
    have e : vi ((n : Int) + 8) = vi ((n + 8 : Nat) : Int) := by simp
    rw [e, this, Go.Lib.bitLen_shift8 x h (by omega)]
    congr 3
    omega
  · rw [decide_eq_false h, if_neg (by simp)]
    exact len3 (by omega) (by omega) H
theorem len1 {x n : Nat} (hx : x < 4294967296) (hn : n ≤ 32) (H : AH) : math_bits_Len64_k1 (vu x) (vi (n : Int)) H = some (vi ((n + Go.Lib.bitLen x : Nat) : Int), H) := by
  rw [math_bits_Len64_k1_eq]
  have g := geq_u (a := x) (b := 65536)
  have s := shr_lit (k := .u64) x 16 (by omega)
  simp only [Nat.reducePow] at s
  have g : pBin .other .geq (vu x) (Value.int .u64 65536) = some (vb (decide (65536 ≤ x))) := g
  have s : pBin .other .shr (vu x) (Value.int .u64 16) = some (vu (x / 65536)) := s
  rw [g, Option.bind_some, condK_b]
  by_cases h : 65536 ≤ x
  · rw [decide_eq_true h, if_pos rfl, s, Option.bind_some, bin_add_i (by omega) (by omega), Option.bind_some]
    have := len2 (x := x / 65536) (n := n + 16) (by omega) (by omega) H
    have e : vi ((n : Int) + 16) = vi ((n + 16 : Nat) : Int) := by simp
    rw [e, this, Go.Lib.bitLen_shift16 x h (by omega)]
    congr 3
    omega
  · rw [decide_eq_false h, if_neg (by simp)]
    exact len2 (by omega) (by omega) H
theorem len64_spec {x : Nat} (hx : x < 18446744073709551616) (H : AH) : FF n_math_bits_Len64 [vu x] H = some (vi ((Go.Lib.bitLen x : Nat) : Int), H) := by
  apply math_bits_Len64_of
  rw [math_bits_Len64_eq, math_bits_Len64_k0_eq]
  have g := geq_u (a := x) (b := 4294967296)
  have s := shr_lit (k := .u64) x 32 (by omega)
  simp only [Nat.reducePow] at s
  have g : pBin .other .geq (vu x) (Value.int .u64 4294967296) = some (vb (decide (4294967296 ≤ x))) := g
  have s : pBin .other .shr (vu x) (Value.int .u64 32) = some (vu (x / 4294967296)) := s
  rw [g, Option.bind_some, condK_b]
  by_cases h : 4294967296 ≤ x
  · rw [decide_eq_true h, if_pos rfl, s, Option.bind_some]
    have := len1 (x := x / 4294967296) (n := 32) (by omega) (by omega) H
    have e : Value.int .i64 32 = vi ((32 : Nat) : Int) := rfl
    rw [e, this, Go.Lib.bitLen_shift32 x h hx]
  · rw [decide_eq_false h, if_neg (by simp)]
    have := len1 (x := x) (n := 0) (by omega) (by omega) H
    have e : Value.int .i64 0 = vi ((0 : Nat) : Int) := rfl
    rw [e, this, Nat.zero_add]

/-- The highest bit. -/
theorem bitLen_top : ∀ (f x : Nat), x ≠ 0 → x < 2 ^ f → 0 < Go.Lib.bitLenAux f x ∧ Go.Lib.bitLenAux f x ≤ f ∧ x.testBit (Go.Lib.bitLenAux f x - 1) = true ∧ ∀ i, Go.Lib.bitLenAux f x ≤ i → x.testBit i = false := by
  intro f
  induction f with
  | zero => intro x h0 hx; simp at hx; exact absurd hx h0
  | succ f ih =>
    intro x h0 hx
    simp only [Go.Lib.bitLenAux, if_neg h0]
    have hpow : 2 ^ (f + 1) = 2 * 2 ^ f := by rw [Nat.pow_succ]; omega
    by_cases h1 : x / 2 = 0
    · have e : x = 1 := by omega
      subst e
      have z : Go.Lib.bitLenAux f (1 / 2) = 0 := by cases f <;> simp [Go.Lib.bitLenAux]
      rw [z]
      refine ⟨by omega, by omega, by decide, fun i hi => ?_⟩
      rw [show (1 : Nat) = 2 ^ 0 from rfl, Nat.testBit_two_pow]
      simp; omega
    · obtain ⟨a1, a2, a3, a4⟩ := ih (x / 2) h1 (by omega)
      generalize Go.Lib.bitLenAux f (x / 2) = c at a1 a2 a3 a4
      refine ⟨by omega, by omega, ?_, fun i hi => ?_⟩
      · have : 1 + c - 1 = (c - 1) + 1 := by omega
        rw [this, Nat.testBit_succ]; exact a3
      · obtain ⟨j, rfl⟩ : ∃ j, i = j + 1 := ⟨i - 1, by omega⟩
        rw [Nat.testBit_succ]; exact a4 j (by omega)

theorem low_bits (b n : Nat) (i : Nat) : (b &&& (2 ^ n - 1)).testBit i = (b.testBit i && decide (i < n)) := by
  rw [Nat.testBit_and, Nat.testBit_two_pow_sub_one]

theorem last_spec {b : Nat} (hb : b < 18446744073709551616) (a : Int) (H : AH) : ∃ r, FF n_bits_Last [vu b, vi a] H = some (vi r, H) ∧ IsLast b a r := by
  by_cases h0 : a < 0
  · refine ⟨-1, ?_, .inl ⟨rfl, fun i hi => bitN_out (by omega)⟩⟩
    apply bits_Last_of
    rw [bits_Last_eq, bin_lss, Option.bind_some, condK_b, decide_eq_true h0, if_pos rfl]
  · obtain ⟨m, hm⟩ : ∃ m : Nat, min a 63 = (m : Int) := ⟨(min a 63).toNat, by omega⟩
    have hm63 : m ≤ 63 := by omega
    have sb : pBin .other .sub (Value.int .i64 63) (vi (m : Int)) = some (vi ((63 - m : Nat) : Int)) := by
      have := bin_sub_i (cl := .other) (a := 63) (b := (m : Int)) (by omega) (by omega)
      rw [this]
      congr 2
      omega
    have sh : pBin .other .shr (Value.int .u64 18446744073709551615) (vi ((63 - m : Nat) : Int)) = some (vu (2 ^ (m + 1) - 1)) := by
      have : pBin .other .shr (Value.int .u64 18446744073709551615) (vi ((63 - m : Nat) : Int)) = some (vu (18446744073709551615 / 2 ^ (63 - m))) := shr_lit (k := .i64) 18446744073709551615 (63 - m) (by omega)
      rw [this]
      have e : ∀ k : Fin 64, 18446744073709551615 / 2 ^ (63 - k.val) = 2 ^ (k.val + 1) - 1 := by decide +kernel
      rw [e ⟨m, by omega⟩]
    have hlt : 2 ^ (m + 1) - 1 < 18446744073709551616 := by
      have h1 : 2 ^ (m + 1) ≤ 2 ^ 64 := Nat.pow_le_pow_right (by omega) (by omega)
      simp only [Nat.reducePow] at h1
      omega
    have hx := low_bits b (m + 1)
    have an : pBin .other .and (vu b) (vu (2 ^ (m + 1) - 1)) = some (vu (b &&& (2 ^ (m + 1) - 1))) := bin_and hb hlt
    have hxb : b &&& (2 ^ (m + 1) - 1) < 18446744073709551616 := Nat.lt_of_le_of_lt Nat.and_le_left hb
    generalize b &&& (2 ^ (m + 1) - 1) = x at hx an hxb
    have bit : ∀ i : Int, i ≤ a → bitN b i = bitN x i := by
      intro i hi
      by_cases hr : 0 ≤ i ∧ i < 64
      · unfold bitN
        rw [hx]
        have : i.toNat < m + 1 := by omega
        simp [this]
      · rw [bitN_out hr, bitN_out hr]
    have run : ∀ n : Nat, Go.Lib.bitLen x = n → n ≤ 64 → FF n_bits_Last [vu b, vi a] H = some (vi ((n : Int) - 1), H) := by
      intro n hn hn64
      apply bits_Last_of
      rw [bits_Last_eq, bin_lss, Option.bind_some, condK_b, decide_eq_false h0, if_neg (by simp), min_i, hm, Option.bind_some, sb, Option.bind_some, sh, Option.bind_some, an, Option.bind_some, len64_spec hxb, Option.bind_some]
      simp only
      rw [hn, bin_sub_i (by omega) (by omega)]
      rfl
    by_cases hz : x = 0
    · subst hz
      refine ⟨-1, ?_, .inl ⟨rfl, fun i hi => ?_⟩⟩
      · have := run 0 (by simp [Go.Lib.bitLen, Go.Lib.bitLenAux]) (by omega)
        simpa using this
      · rw [bit i hi]; unfold bitN; simp
    · have hx64 : x < 2 ^ 64 := by simp only [Nat.reducePow]; exact hxb
      obtain ⟨c1, c2, c3, c4⟩ := bitLen_top 64 x hz hx64
      have hbl : Go.Lib.bitLen x = Go.Lib.bitLenAux 64 x := rfl
      generalize Go.Lib.bitLenAux 64 x = c at c1 c2 c3 c4 hbl
      have hcm : c - 1 < m + 1 := by
        have := hx (c - 1)
        rw [c3] at this
        simp only [Bool.eq_and_self, true_eq_decide_iff, Bool.true_eq, Bool.and_eq_true, decide_eq_true_eq] at this
        exact this.2
      refine ⟨((c : Int) - 1), run c hbl c2, .inr ⟨by omega, by omega, ?_, fun i hi hlt => ?_⟩⟩
      · have e : (c : Int) - 1 = ((c - 1 : Nat) : Int) := by omega
        rw [bit _ (by omega), e, bitN_nat (by omega)]; exact c3
      · rw [bit i hi]
        by_cases hr : 0 ≤ i ∧ i < 64
        · unfold bitN
          rw [c4 i.toNat (by omega)]; simp
        · exact bitN_out hr
end Go.Proofs.YtofbcaheogfkeaaDoor.Gst
