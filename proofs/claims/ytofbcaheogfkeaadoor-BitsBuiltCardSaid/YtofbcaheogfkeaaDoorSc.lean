/- Rows of whole numbers: built one by one, compared; the reference's One and Bits. -/
import Derived.Test.YtofbcaheogfkeaaDoorSb
namespace Go.Proofs.YtofbcaheogfkeaaDoor.Gst
open Go Go.RowKit
set_option linter.unusedSimpArgs false

/-- A slice of whole numbers reads as this list. -/
inductive Ints (H : AH) : Value → List Int → Prop
  | nil : Ints H (.slice none 0 0) []
  | zero (b e : Nat) : Ints H (.slice (some ⟨b, 0, none⟩) 0 e) []
  | row (b : Nat) (ro : Bool) (l : List Int) (h : H.get b = some (.cells ro (l.map vi))) : Ints H (.slice (some ⟨b, 0, none⟩) l.length 1) l
/-- .. that was made behind this heap. -/
inductive Own (H0 H : AH) : Value → List Int → Prop
  | nil : Own H0 H (.slice none 0 0) []
  | row (b : Nat) (l : List Int) (hb : H0.size ≤ b) (h : H.get b = some (.cells false (l.map vi))) : Own H0 H (.slice (some ⟨b, 0, none⟩) l.length 1) l
theorem Own.ints {H0 H : AH} {s : Value} {l : List Int} (h : Own H0 H s l) : Ints H s l := by
  cases h with
  | nil => exact .nil
  | row b l hb h => exact .row b false l h
theorem Ints.keep {H H' : AH} {s : Value} {l : List Int} (h : Ints H s l) (k : Keeps H H') : Ints H' s l := by
  cases h with
  | nil => exact .nil
  | zero b e => exact .zero b e
  | row b ro l h => exact .row b ro l (k.get h)
theorem Own.keep {H0 H H' : AH} {s : Value} {l : List Int} (h : Own H0 H s l) (k : Keeps H H') : Own H0 H' s l := by
  cases h with
  | nil => exact .nil
  | row b l hb h => exact .row b l hb (k.get h)
theorem Own.base {H0 H1 H : AH} {s : Value} {l : List Int} (h : Own H1 H s l) (k : H0.size ≤ H1.size) : Own H0 H s l := by
  cases h with
  | nil => exact .nil
  | row b l hb h => exact .row b l (by omega) h

theorem fill1 (x : Value) (hx : x.cells = #[x]) : pFill (offs 1) (List.replicate 1 [Value.int .i64 0]).flatten [(0, x)] = some [x] := by
  simp [pFill, offs, splice, hx]

theorem takeAll (l : List Int) : List.take l.length (l.map vi) = l.map vi := List.take_of_length_le (by simp)
theorem ones (l : List Int) : (l.map vi).all Value.oneCell' = true := by
  rw [List.all_eq_true]
  intro x hx
  obtain ⟨n, _, rfl⟩ := List.mem_map.1 hx
  rfl

/-- Rows one behind the other: what append does with rows that are read so. -/
theorem app_ints {H0 H : AH} {s x : Value} {l m : List Int} (hk : Keeps H0 H) (hs : Own H0 H s l) (hx : Ints H x m) (hlen : (l.length + m.length) * 8 ≤ 140737488355328) :
    ∃ s' H', pApp 1 8 s x H = some (s', H') ∧ Keeps H0 H' ∧ Own H0 H' s' (l ++ m) ∧ (∀ b, b < H.size → H'.get b ≠ H.get b → H0.size ≤ b) := by
  have hrow : ∃ n, pRow 1 x H = some (n, m.map vi) ∧ n = m.length := by
    cases hx with
    | nil => exact ⟨0, rfl, rfl⟩
    | zero b e => exact ⟨0, rfl, rfl⟩
    | row b ro m h =>
      unfold pRow
      by_cases h0 : m.length = 0
      · have : m = [] := List.eq_nil_of_length_eq_zero h0
        subst this; exact ⟨0, by simp, rfl⟩
      · refine ⟨m.length, ?_, rfl⟩
        simp only [h0, if_false, pCells, h, Option.bind_some]
        simp [takeAll]
  obtain ⟨n, hr, rfl⟩ := hrow
  unfold pApp
  rw [hr]
  simp only [Option.bind_some, ones, Nat.lt_add_one, and_self, if_true]
  cases hs with
  | nil =>
    by_cases h0 : m.length = 0
    · have : m = [] := List.eq_nil_of_length_eq_zero h0
      subst this
      exact ⟨_, _, by simp, hk, .nil, fun b _ h => absurd rfl h⟩
    · refine ⟨.slice (some ⟨H.size, 0, none⟩) m.length 1, H.push (.cells false (m.map vi)), ?_, hk.trans (Keeps.push _ _), ?_, fun b hb h => absurd (AH.get_push_old hb) h⟩
      · simp only [and_self, if_true, h0, if_false]
        rw [if_pos (by unfold room; simp only [List.length_nil] at hlen; omega)]
      · simp only [List.nil_append]
        exact .row H.size m hk.1 (AH.get_push_new _ _)
  | row b l hb h =>
    by_cases h0 : m.length = 0
    · have : m = [] := List.eq_nil_of_length_eq_zero h0
      subst this
      simp only [List.length_nil, if_true]
      refine ⟨_, _, rfl, hk, ?_, fun b _ h => absurd rfl h⟩
      rw [List.append_nil]
      exact .row b l hb h
    · refine ⟨.slice (some ⟨H.size, 0, none⟩) (l ++ m).length 1, (H.set b .dead).push (.cells false ((l ++ m).map vi)), ?_, ⟨?_, ?_⟩, ?_, ?_⟩
      · simp only [h0, if_false, Nat.one_ne_zero, h]
        rw [if_pos (by unfold room; simp; omega)]
        simp [takeAll]
      · rw [AH.size_push, AH.size_set]; have := hk.1; omega
      · intro b' hb'
        rw [AH.get_push_old (by rw [AH.size_set]; have := hk.1; omega), AH.get_set_ne (by omega)]
        exact hk.2 b' hb'
      · refine .row H.size (l ++ m) hk.1 ?_
        have := AH.get_push_new (H.set b .dead) (.cells false ((l ++ m).map vi))
        rwa [AH.size_set] at this
      · intro b' hb' hne
        by_cases e : b' = b
        · omega
        · exact absurd (by rw [AH.get_push_old (by rw [AH.size_set]; exact hb'), AH.get_set_ne e]) hne

/-- One more. -/
theorem app_one {R : Type} {H0 H : AH} {s : Value} {l : List Int} (hk : Keeps H0 H) (hs : Own H0 H s l) (x : Int) (hlen : (l.length + 1) * 8 ≤ 140737488355328) :
    ∃ s' H', Keeps H0 H' ∧ Own H0 H' s' (l ++ [x]) ∧ ∀ k : Value × AH → Option R,
      ((pFill (offs 1) (List.replicate 1 [Value.int .i64 0]).flatten [(0, vi x)]).bind fun cs => rowK 1 1 cs H fun v H1 => (pApp 1 8 s v H1).bind k) = k (s', H') := by
  have h1 : Keeps H (H.push (.cells false [vi x])) := Keeps.push _ _
  obtain ⟨s', H', ha, hk', ho, _⟩ := app_ints (hk.trans h1) (hs.keep h1) (x := .slice (some ⟨H.size, 0, none⟩) 1 1) (m := [x]) (.row H.size false [x] (AH.get_push_new _ _)) hlen
  refine ⟨s', H', hk', ho, fun k => ?_⟩
  rw [fill1 _ rfl]
  simp only [Option.bind_some, rowK]
  rw [ha]; rfl

/-! ### The reference's One -/
theorem one_loop (i : Int) (hi : i < 64) (x2 : Value) (H : AH) : ∀ (n k : Nat), (k : Int) + n = i → weighbridgeref01_One_k4 (vi i) x2 (vu (2 ^ k)) (vi k) H = some (vu (2 ^ i.toNat), H) := by
  intro n
  induction n with
  | zero =>
    intro k hk
    rw [weighbridgeref01_One_k4_eq]
    have h1 : ¬ ((k : Int) < i) := by omega
    simp only [bin_lss, Option.bind_some, condK_b, h1, decide_false, if_false, Bool.false_eq_true]
    rw [weighbridgeref01_One_e3_0_eq, weighbridgeref01_One_k1_eq, show i.toNat = k from by omega]
  | succ n ih =>
    intro k hk
    rw [weighbridgeref01_One_k4_eq]
    have h1 : (k : Int) < i := by omega
    simp only [bin_lss, Option.bind_some, condK_b, h1, decide_true, if_true]
    rw [weighbridgeref01_One_k5_eq]
    have m : pBin .other .mul (Value.int .u64 2) (vu (2 ^ k)) = some (vu (2 * 2 ^ k % 18446744073709551616)) := bin_mul_u (cl := .other) (a := 2) (b := 2 ^ k)
    have hl : 2 ^ (k + 1) < 18446744073709551616 := Nat.pow_lt_pow_right (a := 2) (m := k + 1) (n := 64) (by omega) (by omega)
    rw [m, Nat.mul_comm, ← Nat.pow_succ, Nat.mod_eq_of_lt hl]
    simp only [Option.bind_some]
    rw [weighbridgeref01_One_k6_eq, bin_add_i (by omega) (by omega)]
    simp only [Option.bind_some]
    have := ih (k + 1) (by omega)
    simpa using this
theorem one_spec (i : Int) (H : AH) : FF n_weighbridgeref01_One [vi i] H = some (vu (maskN i), H) := by
  apply weighbridgeref01_One_of
  rw [weighbridgeref01_One_eq]
  simp only [bin_lss, Option.bind_some]
  by_cases h0 : i < 0
  · have : ¬ (0 ≤ i ∧ i < 64) := by omega
    simp [h0, yv, onK, pPick, condK, maskN, this]
  · simp only [h0, decide_false, yv, onK, beq_self_eq_true, Option.bind_some, bin_gtr, pPick, if_false, Bool.false_eq_true, condK_b]
    by_cases h1 : 63 < i
    · have : ¬ (0 ≤ i ∧ i < 64) := by omega
      simp [h1, maskN, this]
    · have h2 : 0 ≤ i ∧ i < 64 := by omega
      simp only [h1, decide_false, if_false, Bool.false_eq_true, maskN, if_pos h2]
      rw [weighbridgeref01_One_k0_eq, weighbridgeref01_One_k2_eq]
      exact one_loop i h2.2 _ H i.toNat 0 (by omega)

/-! ### The reference's Bits -/
/-- The places from k on, n of them, at which b is 1. -/
def onesFrom (b : Nat) : Nat → Nat → List Int
  | _, 0 => []
  | k, n + 1 => if b.testBit k = true then (k : Int) :: onesFrom b (k + 1) n else onesFrom b (k + 1) n
def onesOf (b : Nat) : List Int := onesFrom b 0 64
theorem onesFrom_len (b : Nat) : ∀ n k, (onesFrom b k n).length ≤ n := by
  intro n
  induction n with
  | zero => intro k; exact Nat.le_refl _
  | succ n ih =>
    intro k
    have := ih (k + 1)
    simp only [onesFrom]
    split
    · simp; omega
    · omega

theorem bits_loop {b : Nat} (hb : b < 18446744073709551616) {H0 : AH} (x2 : Value) : ∀ (n k : Nat) (s : Value) (l : List Int) (H : AH), k + n = 64 → l.length ≤ k → Keeps H0 H → Own H0 H s l →
    ∃ s' H', weighbridgeref01_Bits_k4 (vu b) x2 s (vi k) H = some (s', H') ∧ Keeps H0 H' ∧ Own H0 H' s' (l ++ onesFrom b k n) := by
  intro n
  induction n with
  | zero =>
    intro k s l H hk hl hK hO
    refine ⟨s, H, ?_, hK, by simpa [onesFrom] using hO⟩
    rw [weighbridgeref01_Bits_k4_eq]
    have h1 : ¬ ((k : Int) < 64) := by omega
    simp only [bin_lss, Option.bind_some, condK_b, h1, decide_false, if_false, Bool.false_eq_true]
    rw [weighbridgeref01_Bits_e3_0_eq, weighbridgeref01_Bits_k1_eq]
  | succ n ih =>
    intro k s l H hk hl hK hO
    have h1 : (k : Int) < 64 := by omega
    have hbit : bitN b (k : Int) = b.testBit k := by
      have : (0 : Int) ≤ k ∧ (k : Int) < 64 := by omega
      simp [bitN, this]
    have step : ∀ s H, weighbridgeref01_Bits_k6 (vu b) x2 s (vi k) H = weighbridgeref01_Bits_k4 (vu b) x2 s (vi ((k + 1 : Nat) : Int)) H := by
      intro s H
      rw [weighbridgeref01_Bits_k6_eq, bin_add_i (by omega) (by omega)]
      simp
    rw [weighbridgeref01_Bits_k4_eq]
    simp only [bin_lss, Option.bind_some, condK_b, h1, decide_true, if_true]
    rw [weighbridgeref01_Bits_k5_eq, bit_spec hb]
    simp only [Option.bind_some, condK_b, hbit]
    by_cases hbk : b.testBit k = true
    · rw [if_pos hbk]
      obtain ⟨s', H', hK', hO', he⟩ := app_one (R := Value × AH) hK hO (k : Int) (by omega)
      rw [he]
      simp only
      rw [step]
      obtain ⟨s2, H2, e2, k2, o2⟩ := ih (k + 1) s' (l ++ [(k : Int)]) H' (by omega) (by simp; omega) hK' hO'
      refine ⟨s2, H2, e2, k2, ?_⟩
      simp only [onesFrom, hbk, if_true]
      simpa using o2
    · rw [if_neg hbk, step]
      obtain ⟨s2, H2, e2, k2, o2⟩ := ih (k + 1) s l H (by omega) (by omega) hK hO
      refine ⟨s2, H2, e2, k2, ?_⟩
      simp only [onesFrom, hbk, Bool.false_eq_true, if_false]
      exact o2
theorem bits_spec {b : Nat} (hb : b < 18446744073709551616) (H : AH) : ∃ s H', FF n_weighbridgeref01_Bits [vu b] H = some (s, H') ∧ Keeps H H' ∧ Own H H' s (onesOf b) := by
  obtain ⟨s, H', e, k, o⟩ := bits_loop hb (H0 := H) (.slice none 0 0) 64 0 (.slice none 0 0) [] H rfl (Nat.le_refl _) (Keeps.refl H) .nil
  refine ⟨s, H', ?_, k, by simpa [onesOf] using o⟩
  apply weighbridgeref01_Bits_of
  rw [weighbridgeref01_Bits_eq, weighbridgeref01_Bits_k0_eq, weighbridgeref01_Bits_k2_eq]
  exact e
end Go.Proofs.YtofbcaheogfkeaaDoor.Gst
