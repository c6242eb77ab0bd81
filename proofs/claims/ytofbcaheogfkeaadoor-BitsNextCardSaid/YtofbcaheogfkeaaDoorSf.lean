/- Go's own OnesCount64: how many places of b are 1. -/
import Derived.Test.YtofbcaheogfkeaaDoorSe
namespace Go.Proofs.YtofbcaheogfkeaaDoor.Gst
open Go Go.RowKit
set_option linter.unusedSimpArgs false
set_option maxRecDepth 100000

/-! ### Bytes -/
def val : List Nat → Nat
  | [] => 0
  | d :: ds => 256 * val ds + d
def msk (c : Nat) : List Nat → Nat
  | [] => 0
  | _ :: ds => 256 * msk c ds + c

theorem land_256 (a b r s : Nat) (hr : r < 256) (hs : s < 256) : (256 * a + r) &&& (256 * b + s) = 256 * (a &&& b) + (r &&& s) := by
  have hrs : r &&& s < 256 := Nat.lt_of_le_of_lt Nat.and_le_left hr
  apply Nat.eq_of_testBit_eq
  intro j
  rw [Nat.testBit_and]
  have e : ∀ x y : Nat, y < 256 → (256 * x + y).testBit j = if j < 8 then y.testBit j else x.testBit (j - 8) := fun x y hy => by
    have := Nat.testBit_two_pow_mul_add x (i := 8) (b := y) (by simpa using hy) j
    simpa using this
  rw [e a r hr, e b s hs, e _ _ hrs]
  split
  · rw [Nat.testBit_and]
  · rw [Nat.testBit_and]

def s1 (d : Nat) : Nat := (d / 2 &&& 85) + (d &&& 85)
def s2 (d : Nat) : Nat := (d / 4 &&& 51) + (d &&& 51)
def s3 (d : Nat) : Nat := (d / 16 + d) &&& 15

theorem k1 : ∀ d : Fin 256, ∀ j : Fin 2, (128 * j.val + d.val / 2) &&& 85 = d.val / 2 &&& 85 := by decide +kernel
theorem k2 : ∀ d : Fin 256, ∀ j : Fin 4, (64 * j.val + d.val / 4) &&& 51 = d.val / 4 &&& 51 := by decide +kernel
/-- Both halves of a byte are 4 at most. -/
def Nib (d : Nat) : Prop := d / 16 ≤ 4 ∧ d % 16 ≤ 4
theorem k3 : ∀ d : Fin 69, ∀ j : Fin 5, (d.val / 16 ≤ 4 ∧ d.val % 16 ≤ 4) → (16 * j.val + d.val / 16 + d.val) &&& 15 = (d.val / 16 + d.val) &&& 15 := by decide +kernel
theorem b1 : ∀ d : Fin 256, s1 d.val < 256 := by decide +kernel
theorem b2 : ∀ d : Fin 256, s2 (s1 d.val) < 69 ∧ s2 (s1 d.val) / 16 ≤ 4 ∧ s2 (s1 d.val) % 16 ≤ 4 := by decide +kernel
theorem b3 : ∀ d : Fin 256, s3 (s2 (s1 d.val)) ≤ 8 := by decide +kernel

theorem st1 : ∀ ds : List Nat, (∀ d ∈ ds, d < 256) → (val ds / 2 &&& msk 85 ds) + (val ds &&& msk 85 ds) = val (ds.map s1) := by
  intro ds
  induction ds with
  | nil => intro _; rfl
  | cons d ds ih =>
    intro h
    have hd := h d (by simp)
    have hi := ih (fun x hx => h x (by simp [hx]))
    simp only [val, msk, List.map_cons]
    have e : (256 * val ds + d) / 2 = 256 * (val ds / 2) + (128 * (val ds % 2) + d / 2) := by omega
    have hk := k1 ⟨d, hd⟩ ⟨val ds % 2, Nat.mod_lt _ (by omega)⟩
    simp only at hk
    rw [e, land_256 _ _ _ _ (by omega) (by omega), land_256 _ _ _ _ hd (by omega), hk, ← hi]
    unfold s1
    omega
theorem st2 : ∀ ds : List Nat, (∀ d ∈ ds, d < 256) → (val ds / 4 &&& msk 51 ds) + (val ds &&& msk 51 ds) = val (ds.map s2) := by
  intro ds
  induction ds with
  | nil => intro _; rfl
  | cons d ds ih =>
    intro h
    have hd := h d (by simp)
    have hi := ih (fun x hx => h x (by simp [hx]))
    simp only [val, msk, List.map_cons]
    have e : (256 * val ds + d) / 4 = 256 * (val ds / 4) + (64 * (val ds % 4) + d / 4) := by omega
    have hk := k2 ⟨d, hd⟩ ⟨val ds % 4, Nat.mod_lt _ (by omega)⟩
    simp only at hk
    rw [e, land_256 _ _ _ _ (by omega) (by omega), land_256 _ _ _ _ hd (by omega), hk, ← hi]
    unfold s2
    omega
theorem val_mod (ds : List Nat) (h : ∀ d ∈ ds, d < 69 ∧ Nib d) : val ds % 16 ≤ 4 := by
  cases ds with
  | nil => simp [val]
  | cons d ds =>
    have := (h d (by simp)).2.2
    simp only [val]
    omega
theorem st3 : ∀ ds : List Nat, (∀ d ∈ ds, d < 69 ∧ Nib d) → (val ds / 16 + val ds) &&& msk 15 ds = val (ds.map s3) := by
  intro ds
  induction ds with
  | nil => intro _; rfl
  | cons d ds ih =>
    intro h
    obtain ⟨hd, hn1, hn2⟩ := h d (by simp)
    have hi := ih (fun x hx => h x (by simp [hx]))
    have hm := val_mod ds (fun x hx => h x (by simp [hx]))
    simp only [val, msk, List.map_cons]
    have e : (256 * val ds + d) / 16 + (256 * val ds + d) = 256 * (val ds / 16 + val ds) + (16 * (val ds % 16) + d / 16 + d) := by omega
    have hk := k3 ⟨d, hd⟩ ⟨val ds % 16, by omega⟩ ⟨hn1, hn2⟩
    simp only at hk
    rw [e, land_256 _ _ _ _ (by omega) (by omega), hk, hi]
    rfl

def byts : Nat → Nat → List Nat
  | 0, _ => []
  | n + 1, b => (b % 256) :: byts n (b / 256)
theorem byts_lt : ∀ n b, ∀ d ∈ byts n b, d < 256 := by
  intro n
  induction n with
  | zero => intro b d h; simp [byts] at h
  | succ n ih =>
    intro b d h
    simp only [byts, List.mem_cons] at h
    rcases h with rfl | h
    · exact Nat.mod_lt _ (by omega)
    · exact ih _ d h
theorem val_byts : ∀ n b, b < 256 ^ n → val (byts n b) = b := by
  intro n
  induction n with
  | zero => intro b h; simp at h; simp [byts, val, h]
  | succ n ih =>
    intro b h
    have e : 256 ^ (n + 1) = 256 * 256 ^ n := by rw [Nat.pow_succ]; omega
    simp only [byts, val]
    rw [ih (b / 256) (by omega)]
    omega
theorem byts_length : ∀ n b, (byts n b).length = n := by
  intro n
  induction n with
  | zero => intro b; rfl
  | succ n ih => intro b; simp [byts, ih]

/-! ### How many -/
theorem onesFrom_add (b : Nat) : ∀ (n m k : Nat), onesFrom b k (n + m) = onesFrom b k n ++ onesFrom b (k + n) m := by
  intro n
  induction n with
  | zero => intro m k; simp [onesFrom]
  | succ n ih =>
    intro m k
    rw [show n + 1 + m = (n + m) + 1 from by omega]
    simp only [onesFrom]
    rw [ih m (k + 1), show k + 1 + n = k + (n + 1) from by omega]
    split <;> simp

/-- As many as the places of another number. -/
theorem ones_len_congr (b c : Nat) : ∀ (n k j : Nat), (∀ i, i < n → b.testBit (k + i) = c.testBit (j + i)) → (onesFrom b k n).length = (onesFrom c j n).length := by
  intro n
  induction n with
  | zero => intro k j _; rfl
  | succ n ih =>
    intro k j h
    have h0 := h 0 (by omega)
    simp only [Nat.add_zero] at h0
    have hi := ih (k + 1) (j + 1) (fun i hi => by
      have := h (i + 1) (by omega)
      rw [show k + (i + 1) = k + 1 + i from by omega, show j + (i + 1) = j + 1 + i from by omega] at this
      exact this)
    simp only [onesFrom, h0]
    split
    · simp [hi]
    · exact hi
theorem byte_ones : ∀ d : Fin 256, (onesFrom d.val 0 8).length = s3 (s2 (s1 d.val)) := by decide +kernel

theorem ones_byts : ∀ (n b : Nat), (onesFrom b 0 (8 * n)).length = ((byts n b).map fun d => s3 (s2 (s1 d))).sum := by
  intro n
  induction n with
  | zero => intro b; rfl
  | succ n ih =>
    intro b
    rw [show 8 * (n + 1) = 8 + 8 * n from by omega, onesFrom_add, List.length_append]
    simp only [byts, List.map_cons, List.sum_cons]
    have h1 : (onesFrom b 0 8).length = (onesFrom (b % 256) 0 8).length := ones_len_congr b (b % 256) 8 0 0 (fun i hi => by
      have := Nat.testBit_mod_two_pow b 8 (0 + i)
      simp only [Nat.reducePow] at this
      rw [this]
      have : 0 + i < 8 := by omega
      simp [hi])
    have h2 : (onesFrom b (0 + 8) (8 * n)).length = (onesFrom (b / 256) 0 (8 * n)).length := ones_len_congr b (b / 256) (8 * n) (0 + 8) 0 (fun i hi => by
      have := testBit_div b 8 (0 + i)
      simp only [Nat.reducePow] at this
      rw [this]
      congr 1
      omega)
    rw [h1, byte_ones ⟨b % 256, Nat.mod_lt _ (by omega)⟩, h2, ih]

theorem bits_and_i {a : Nat} (ha : a < 9223372036854775808) : Go.bits .and .i64 (a : Int) 127 = ((a % 128 : Nat) : Int) := by
  show IntKind.wrap .i64 (((BitVec.ofInt 64 (a : Int) &&& BitVec.ofInt 64 ((127 : Nat) : Int)).toNat : Nat) : Int) = _
  rw [BitVec.toNat_and, ofInt_nat a (by omega), ofInt_nat 127 (by omega)]
  have : a &&& 127 = a % 128 := Nat.and_two_pow_sub_one_eq_mod a 7
  rw [this]
  have := Nat.mod_lt a (show 128 > 0 by omega)
  exact wrap_i_of (by omega) (by omega)

theorem div_is {n q r c : Nat} (h : n = r + c * q) (hr : r < c) : n / c = q := by
  rw [h, Nat.add_mul_div_left _ _ (by omega), Nat.div_eq_of_lt hr, Nat.zero_add]
theorem mod_is {n q r c : Nat} (h : n = r + c * q) (hr : r < c) : n % c = r := by
  rw [h, Nat.add_mul_mod_self_left, Nat.mod_eq_of_lt hr]
section
variable {a0 a1 a2 a3 a4 a5 a6 a7 : Nat}
theorem add1 (h0 : a0 ≤ 8) {x : Nat} (hx : x = a0 + 256 * a1 + 65536 * a2 + 16777216 * a3 + 4294967296 * a4 + 1099511627776 * a5 + 281474976710656 * a6 + 72057594037927936 * a7) :
    x + x / 256 = (a0 + a1) + 256 * (a1 + a2) + 65536 * (a2 + a3) + 16777216 * (a3 + a4) + 4294967296 * (a4 + a5) + 1099511627776 * (a5 + a6) + 281474976710656 * (a6 + a7) + 72057594037927936 * a7 := by
  rw [div_is (n := x) (c := 256) (r := a0) (q := a1 + 256 * a2 + 65536 * a3 + 16777216 * a4 + 4294967296 * a5 + 1099511627776 * a6 + 281474976710656 * a7) (by omega) (by omega)]
  omega
theorem add2 (h0 : a0 ≤ 8) (h1 : a1 ≤ 8) (h2 : a2 ≤ 8) {y : Nat} (hy : y = (a0 + a1) + 256 * (a1 + a2) + 65536 * (a2 + a3) + 16777216 * (a3 + a4) + 4294967296 * (a4 + a5) + 1099511627776 * (a5 + a6) + 281474976710656 * (a6 + a7) + 72057594037927936 * a7) :
    y + y / 65536 = (a0 + a1 + a2 + a3) + 256 * (a1 + a2 + a3 + a4) + 65536 * (a2 + a3 + a4 + a5) + 16777216 * (a3 + a4 + a5 + a6) + 4294967296 * (a4 + a5 + a6 + a7) + 1099511627776 * (a5 + a6 + a7) + 281474976710656 * (a6 + a7) + 72057594037927936 * a7 := by
  rw [div_is (n := y) (c := 65536) (r := (a0 + a1) + 256 * (a1 + a2)) (q := (a2 + a3) + 256 * (a3 + a4) + 65536 * (a4 + a5) + 16777216 * (a5 + a6) + 4294967296 * (a6 + a7) + 1099511627776 * a7) (by omega) (by omega)]
  omega
theorem add3 (h0 : a0 ≤ 8) (h1 : a1 ≤ 8) (h2 : a2 ≤ 8) (h3 : a3 ≤ 8) (h4 : a4 ≤ 8) (h5 : a5 ≤ 8) (h6 : a6 ≤ 8) {z : Nat} (hz : z = (a0 + a1 + a2 + a3) + 256 * (a1 + a2 + a3 + a4) + 65536 * (a2 + a3 + a4 + a5) + 16777216 * (a3 + a4 + a5 + a6) + 4294967296 * (a4 + a5 + a6 + a7) + 1099511627776 * (a5 + a6 + a7) + 281474976710656 * (a6 + a7) + 72057594037927936 * a7) :
    z + z / 4294967296 = z + ((a4 + a5 + a6 + a7) + 256 * (a5 + a6 + a7) + 65536 * (a6 + a7) + 16777216 * a7) := by
  rw [div_is (n := z) (c := 4294967296) (r := (a0 + a1 + a2 + a3) + 256 * (a1 + a2 + a3 + a4) + 65536 * (a2 + a3 + a4 + a5) + 16777216 * (a3 + a4 + a5 + a6)) (q := (a4 + a5 + a6 + a7) + 256 * (a5 + a6 + a7) + 65536 * (a6 + a7) + 16777216 * a7) (by omega) (by omega)]
theorem add4 (h0 : a0 ≤ 8) (h1 : a1 ≤ 8) (h2 : a2 ≤ 8) (h3 : a3 ≤ 8) (h4 : a4 ≤ 8) (h5 : a5 ≤ 8) (h6 : a6 ≤ 8) (h7 : a7 ≤ 8) {w : Nat} (hw : w = (a0 + a1 + a2 + a3) + 256 * (a1 + a2 + a3 + a4) + 65536 * (a2 + a3 + a4 + a5) + 16777216 * (a3 + a4 + a5 + a6) + 4294967296 * (a4 + a5 + a6 + a7) + 1099511627776 * (a5 + a6 + a7) + 281474976710656 * (a6 + a7) + 72057594037927936 * a7 + ((a4 + a5 + a6 + a7) + 256 * (a5 + a6 + a7) + 65536 * (a6 + a7) + 16777216 * a7)) :
    w < 9223372036854775808 ∧ w % 128 = a0 + a1 + a2 + a3 + a4 + a5 + a6 + a7 := by
  refine ⟨by omega, mod_is (q := 2 * (a1 + a2 + a3 + a4) + 512 * (a2 + a3 + a4 + a5) + 131072 * (a3 + a4 + a5 + a6) + 33554432 * (a4 + a5 + a6 + a7) + 8589934592 * (a5 + a6 + a7) + 2199023255552 * (a6 + a7) + 562949953421312 * a7 + 2 * (a5 + a6 + a7) + 512 * (a6 + a7) + 131072 * a7) (by omega) (by omega)⟩
end
/-- The sum of eight small bytes, as the library adds them up. -/
theorem add_up (a0 a1 a2 a3 a4 a5 a6 a7 : Nat) (h0 : a0 ≤ 8) (h1 : a1 ≤ 8) (h2 : a2 ≤ 8) (h3 : a3 ≤ 8) (h4 : a4 ≤ 8) (h5 : a5 ≤ 8) (h6 : a6 ≤ 8) (h7 : a7 ≤ 8) (x y z w : Nat)
    (hx : x = a0 + 256 * a1 + 65536 * a2 + 16777216 * a3 + 4294967296 * a4 + 1099511627776 * a5 + 281474976710656 * a6 + 72057594037927936 * a7)
    (hy : y = x + x / 256) (hz : z = y + y / 65536) (hw : w = z + z / 4294967296) :
    w < 9223372036854775808 ∧ y < 9223372036854775808 ∧ z < 9223372036854775808 ∧ w % 128 = a0 + a1 + a2 + a3 + a4 + a5 + a6 + a7 := by
  rw [add1 h0 hx] at hy
  clear hx
  rw [add2 h0 h1 h2 hy] at hz
  rw [add3 h0 h1 h2 h3 h4 h5 h6 hz] at hw
  have by1 : y < 9223372036854775808 := by clear hz hw; omega
  clear hy
  have bz : z < 9223372036854775808 := by clear hw; omega
  rw [hz] at hw
  clear hz
  have := add4 h0 h1 h2 h3 h4 h5 h6 h7 hw
  exact ⟨this.1, by1, bz, this.2⟩

theorem mul_lit (a b : Nat) : pBin .other .add (vu a) (vu b) = some (vu ((a + b) % 18446744073709551616)) := by
  simp only [pBin, pInt, if_true]
  rw [wrap_u]
  simp
theorem and_c (a c : Nat) (ha : a < 18446744073709551616) (hc : c < 18446744073709551616) : pBin .other .and (vu a) (.int .u64 (c : Int)) = some (vu (a &&& c)) := bin_and ha hc

theorem count_spec {b : Nat} (hb : b < 18446744073709551616) (H : AH) : FF n_math_bits_OnesCount64 [vu b] H = some (vi ((onesOf b).length : Nat), H) := by
  obtain ⟨ds, hds⟩ : ∃ ds, ds = byts 8 b := ⟨_, rfl⟩
  have hlt : ∀ d ∈ ds, d < 256 := by rw [hds]; exact byts_lt 8 b
  have hval : val ds = b := by rw [hds]; exact val_byts 8 b (by simpa using hb)
  have hlen : ds.length = 8 := by rw [hds]; exact byts_length 8 b
  have hones : (onesOf b).length = (ds.map fun d => s3 (s2 (s1 d))).sum := by rw [hds]; exact ones_byts 8 b
  match ds, hlen with
  | [d0, d1, d2, d3, d4, d5, d6, d7], _ =>
    have m85 : msk 85 [d0, d1, d2, d3, d4, d5, d6, d7] = 6148914691236517205 := by simp [msk]
    have m51 : msk 51 [d0, d1, d2, d3, d4, d5, d6, d7] = 3689348814741910323 := by simp [msk]
    have m15 : msk 15 [d0, d1, d2, d3, d4, d5, d6, d7] = 1085102592571150095 := by simp [msk]
    have g1 := st1 _ hlt
    rw [m85, hval] at g1
    have l1 : ∀ d ∈ [d0, d1, d2, d3, d4, d5, d6, d7].map s1, d < 256 := by
      intro x hx
      obtain ⟨y, hy, rfl⟩ := List.mem_map.1 hx
      exact b1 ⟨y, hlt y hy⟩
    have g2 := st2 _ l1
    have m51' : msk 51 ([d0, d1, d2, d3, d4, d5, d6, d7].map s1) = 3689348814741910323 := by simp [msk]
    rw [m51', ← g1] at g2
    have l2 : ∀ d ∈ ([d0, d1, d2, d3, d4, d5, d6, d7].map s1).map s2, d < 69 ∧ Nib d := by
      intro x hx
      obtain ⟨y, hy, rfl⟩ := List.mem_map.1 hx
      obtain ⟨z, hz, rfl⟩ := List.mem_map.1 hy
      have := b2 ⟨z, hlt z hz⟩
      exact ⟨this.1, this.2.1, this.2.2⟩
    have g3 := st3 _ l2
    have m15' : msk 15 (([d0, d1, d2, d3, d4, d5, d6, d7].map s1).map s2) = 1085102592571150095 := by simp [msk]
    rw [m15', ← g2] at g3
    have c0 := b3 ⟨d0, hlt d0 (by simp)⟩
    have c1 := b3 ⟨d1, hlt d1 (by simp)⟩
    have c2 := b3 ⟨d2, hlt d2 (by simp)⟩
    have c3 := b3 ⟨d3, hlt d3 (by simp)⟩
    have c4 := b3 ⟨d4, hlt d4 (by simp)⟩
    have c5 := b3 ⟨d5, hlt d5 (by simp)⟩
    have c6 := b3 ⟨d6, hlt d6 (by simp)⟩
    have c7 := b3 ⟨d7, hlt d7 (by simp)⟩
    simp only [List.map_cons, List.map_nil, val, List.sum_cons, List.sum_nil] at g3 hones
    simp only at c0 c1 c2 c3 c4 c5 c6 c7
    -- the steps of the library
    have x1lt : (b / 2 &&& 6148914691236517205) + (b &&& 6148914691236517205) < 18446744073709551616 := by
      rw [g1]
      have r0 := b1 ⟨d0, hlt d0 (by simp)⟩
      have r1 := b1 ⟨d1, hlt d1 (by simp)⟩
      have r2 := b1 ⟨d2, hlt d2 (by simp)⟩
      have r3 := b1 ⟨d3, hlt d3 (by simp)⟩
      have r4 := b1 ⟨d4, hlt d4 (by simp)⟩
      have r5 := b1 ⟨d5, hlt d5 (by simp)⟩
      have r6 := b1 ⟨d6, hlt d6 (by simp)⟩
      have r7 := b1 ⟨d7, hlt d7 (by simp)⟩
      simp only at r0 r1 r2 r3 r4 r5 r6 r7
      simp only [List.map_cons, List.map_nil, val]
      omega
    have q2 : val (([d0, d1, d2, d3, d4, d5, d6, d7].map s1).map s2) < 18446744073709551616 / 2 := by
      have r0 := (b2 ⟨d0, hlt d0 (by simp)⟩).1
      have r1 := (b2 ⟨d1, hlt d1 (by simp)⟩).1
      have r2 := (b2 ⟨d2, hlt d2 (by simp)⟩).1
      have r3 := (b2 ⟨d3, hlt d3 (by simp)⟩).1
      have r4 := (b2 ⟨d4, hlt d4 (by simp)⟩).1
      have r5 := (b2 ⟨d5, hlt d5 (by simp)⟩).1
      have r6 := (b2 ⟨d6, hlt d6 (by simp)⟩).1
      have r7 := (b2 ⟨d7, hlt d7 (by simp)⟩).1
      simp only at r0 r1 r2 r3 r4 r5 r6 r7
      simp only [List.map_cons, List.map_nil, val]
      omega
    rw [← g2] at q2
    generalize hX1 : (b / 2 &&& 6148914691236517205) + (b &&& 6148914691236517205) = X1 at *
    generalize hX2 : (X1 / 4 &&& 3689348814741910323) + (X1 &&& 3689348814741910323) = X2 at *
    generalize hX3 : (X2 / 16 + X2) &&& 1085102592571150095 = X3 at *
    generalize s3 (s2 (s1 d0)) = a0 at *
    generalize s3 (s2 (s1 d1)) = a1 at *
    generalize s3 (s2 (s1 d2)) = a2 at *
    generalize s3 (s2 (s1 d3)) = a3 at *
    generalize s3 (s2 (s1 d4)) = a4 at *
    generalize s3 (s2 (s1 d5)) = a5 at *
    generalize s3 (s2 (s1 d6)) = a6 at *
    generalize s3 (s2 (s1 d7)) = a7 at *
    obtain ⟨w1, w2, w3, w4⟩ := add_up a0 a1 a2 a3 a4 a5 a6 a7 c0 c1 c2 c3 c4 c5 c6 c7 X3 _ _ _ (by omega) rfl rfl rfl
    have sh : ∀ a n : Nat, n ≤ 64 → pBin .other .shr (vu a) (.int .u64 (n : Int)) = some (vu (a / 2 ^ n)) := fun a n hn => bin_shr_u hn
    have t1 := sh b 1 (by omega)
    have t2 := and_c (b / 2 ^ 1) 6148914691236517205 (by simp only [Nat.reducePow]; omega) (by omega)
    have t3 := and_c b 6148914691236517205 hb (by omega)
    have t4 := bin_add_u (cl := .other) (a := b / 2 &&& 6148914691236517205) (b := b &&& 6148914691236517205) (by omega)
    rw [hX1] at t4
    have t5 := sh X1 2 (by omega)
    have t6 := and_c (X1 / 2 ^ 2) 3689348814741910323 (by simp only [Nat.reducePow]; omega) (by omega)
    have t7 := and_c X1 3689348814741910323 x1lt (by omega)
    have t8 := bin_add_u (cl := .other) (a := X1 / 4 &&& 3689348814741910323) (b := X1 &&& 3689348814741910323) (by omega)
    rw [hX2] at t8
    have t9 := sh X2 4 (by omega)
    have t10 := bin_add_u (cl := .other) (a := X2 / 16) (b := X2) (by omega)
    have t11 := and_c (X2 / 16 + X2) 1085102592571150095 (by omega) (by omega)
    rw [hX3] at t11
    have t12 := sh X3 8 (by omega)
    have t13 := bin_add_u (cl := .other) (a := X3) (b := X3 / 256) (by omega)
    have t14 := sh (X3 + X3 / 256) 16 (by omega)
    have t15 := bin_add_u (cl := .other) (a := X3 + X3 / 256) (b := (X3 + X3 / 256) / 65536) (by omega)
    have t16 := sh (X3 + X3 / 256 + (X3 + X3 / 256) / 65536) 32 (by omega)
    have t17 := bin_add_u (cl := .other) (a := X3 + X3 / 256 + (X3 + X3 / 256) / 65536) (b := (X3 + X3 / 256 + (X3 + X3 / 256) / 65536) / 4294967296) (by omega)
    simp only [Nat.reducePow] at t1 t2 t5 t6 t9 t12 t14 t16
    generalize X3 + X3 / 256 + (X3 + X3 / 256) / 65536 + (X3 + X3 / 256 + (X3 + X3 / 256) / 65536) / 4294967296 = W at *
    have t18 : pConv (some .i64) (vu W) = some (vi (W : Int)) := conv_i64 (by omega) (by omega)
    have t19 : pBin .other .and (vi (W : Int)) (Value.int .i64 127) = some (vi ((W % 128 : Nat) : Int)) := by
      simp only [pBin, pInt, if_true]
      rw [bits_and_i w1]
    apply math_bits_OnesCount64_of
    rw [math_bits_OnesCount64_eq]
    have z1 : ((1 : Nat) : Int) = 1 := by simp
    have z2 : ((2 : Nat) : Int) = 2 := by simp
    have z4 : ((4 : Nat) : Int) = 4 := by simp
    have z8 : ((8 : Nat) : Int) = 8 := by simp
    have z16 : ((16 : Nat) : Int) = 16 := by simp
    have z32 : ((32 : Nat) : Int) = 32 := by simp
    have z85 : ((6148914691236517205 : Nat) : Int) = 6148914691236517205 := by simp
    have z51 : ((3689348814741910323 : Nat) : Int) = 3689348814741910323 := by simp
    have z15 : ((1085102592571150095 : Nat) : Int) = 1085102592571150095 := by simp
    rw [z1] at t1
    rw [z85] at t2 t3
    rw [z2] at t5
    rw [z51] at t6 t7
    rw [z4] at t9
    rw [z15] at t11
    rw [z8] at t12
    rw [z16] at t14
    rw [z32] at t16
    rw [t1, Option.bind_some, t2, Option.bind_some, t3, Option.bind_some, t4, Option.bind_some, t5, Option.bind_some, t6, Option.bind_some, t7, Option.bind_some, t8, Option.bind_some,
      t9, Option.bind_some, t10, Option.bind_some, t11, Option.bind_some, t12, Option.bind_some, t13, Option.bind_some, t14, Option.bind_some, t15, Option.bind_some, t16, Option.bind_some, t17, Option.bind_some, t18, Option.bind_some, t19, Option.bind_some]
    rw [w4, hones]
    simp only [Nat.add_zero, Nat.add_assoc]

theorem many_spec {b : Nat} (hb : b < 18446744073709551616) (H : AH) : FF n_bits_Many [vu b] H = some (vi ((onesOf b).length : Nat), H) := by
  apply bits_Many_of
  rw [bits_Many_eq, count_spec hb]
  rfl
end Go.Proofs.YtofbcaheogfkeaaDoor.Gst
