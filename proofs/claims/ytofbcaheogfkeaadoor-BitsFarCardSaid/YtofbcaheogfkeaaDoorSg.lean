/- Rows held against each other; the program's Last and All; awake. -/
import Derived.Test.YtofbcaheogfkeaaDoorSf
namespace Go.Proofs.YtofbcaheogfkeaaDoor.Gst
open Go Go.RowKit
set_option linter.unusedSimpArgs false
set_option maxRecDepth 100000

theorem ints_len {R : Type} {H : AH} {s : Value} {l : List Int} (h : Ints H s l) (k : Value → Option R) : lenK s k = k (vi l.length) := by
  cases h <;> rfl
theorem ints_at {R : Type} {H H' : AH} {s : Value} {l : List Int} (h : Ints H s l) (hk : Keeps H H') {i : Nat} (hi : i < l.length) (k : Value → Option R) :
    ((pIdx 1 s (vi i)).bind fun p => (pLd1 p H').bind k) = k (vi l[i]) := by
  cases h with
  | nil => simp at hi
  | zero b e => simp at hi
  | row b ro l h =>
    have h := hk.get h
    simp only [pIdx]
    rw [if_pos (by omega)]
    simp only [Option.bind_some]
    rw [ld1_of h (i := 0 + (i : Int).toNat * 1) (v := vi l[i])]
    · rfl
    · simp [List.getElem?_eq_getElem hi]

theorem plain1_spec (a b : Int) (H : AH) : FF n_weighbridgehelp_Plainint_1 [vi a, vi b] H = some (vb (a == b), H) := by
  apply weighbridgehelp_Plainint_1_of
  rw [weighbridgehelp_Plainint_1_eq, bin_eql]
  rfl

theorem same_loop {H : AH} {s t : Value} {l m : List Int} (hs : Ints H s l) (ht : Ints H t m) (hlen : l.length = m.length) (hb : l.length < 9223372036854775807) (x6 : Value) : ∀ (n k : Nat), k + n = l.length →
    weighbridgehelp_Sameint_k4 s t (Value.func (.func n_weighbridgehelp_Plainint_1) #[] #[]) x6 (vi k) H = some (vb (decide (l.drop k = m.drop k)), H) := by
  intro n
  induction n with
  | zero =>
    intro k hk
    rw [weighbridgehelp_Sameint_k4_eq, ints_len hs]
    have h1 : ¬ ((k : Int) < l.length) := by omega
    simp only [bin_lss, Option.bind_some, condK_b, h1, decide_false, if_false, Bool.false_eq_true]
    rw [weighbridgehelp_Sameint_e3_0_eq, weighbridgehelp_Sameint_k1_eq, List.drop_eq_nil_of_le (by omega), List.drop_eq_nil_of_le (by omega)]
    simp
  | succ n ih =>
    intro k hk
    rw [weighbridgehelp_Sameint_k4_eq, ints_len hs]
    have h1 : (k : Int) < l.length := by omega
    have hl : k < l.length := by omega
    have hm : k < m.length := by omega
    simp only [bin_lss, Option.bind_some, condK_b, h1, decide_true, if_true]
    rw [weighbridgehelp_Sameint_k5_eq, ints_at hs (Keeps.refl H) hl, ints_at ht (Keeps.refl H) hm]
    simp only [pCallee, Option.bind_some, List.nil_append, List.append_nil, Array.toList_empty, plain1_spec, pUn, condK_b]
    rw [List.drop_eq_getElem_cons hl, List.drop_eq_getElem_cons hm]
    by_cases e : l[k] = m[k]
    · have e2 : (l[k] == m[k]) = true := by simpa using e
      simp only [e2, Bool.not_true, Bool.false_eq_true, if_false]
      rw [weighbridgehelp_Sameint_k6_eq, bin_add_i (by omega) (by omega)]
      simp only [Option.bind_some]
      have := ih (k + 1) (by omega)
      have c : ((k : Int) + 1) = ((k + 1 : Nat) : Int) := by omega
      rw [c, this, e]
      simp only [List.cons.injEq, true_and]
    · have e2 : (l[k] == m[k]) = false := by simpa using e
      simp only [e2, Bool.not_false, if_true, List.cons.injEq, e, false_and, decide_false]

/-- Rows of whole numbers, held against each other. -/
theorem plain_spec {H : AH} {s t : Value} {l m : List Int} (hs : Ints H s l) (ht : Ints H t m) (hb : l.length < 9223372036854775807) : FF n_weighbridgehelp_Plainint [s, t] H = some (vb (decide (l = m)), H) := by
  apply weighbridgehelp_Plainint_of
  rw [weighbridgehelp_Plainint_eq]
  have : FF n_weighbridgehelp_Sameint [s, t, Value.func (.func n_weighbridgehelp_Plainint_1) #[] #[]] H = some (vb (decide (l = m)), H) := by
    apply weighbridgehelp_Sameint_of
    rw [weighbridgehelp_Sameint_eq, ints_len hs, ints_len ht, bin_neq]
    simp only [Option.bind_some, condK_b]
    by_cases e : l.length = m.length
    · have e2 : ((l.length : Int) != (m.length : Int)) = false := by simp [e]
      simp only [e2, Bool.false_eq_true, if_false]
      rw [weighbridgehelp_Sameint_k0_eq, weighbridgehelp_Sameint_k2_eq]
      have := same_loop hs ht e hb (Value.bool false) l.length 0 (by omega)
      simpa using this
    · have e2 : ((l.length : Int) != (m.length : Int)) = true := by simp; omega
      simp only [e2, if_true]
      have : l ≠ m := fun h => e (by rw [h])
      simp [this]
  rw [this]
  rfl

/-! ### All -/
theorem onesFrom_mem (b : Nat) : ∀ (n k : Nat) (x : Int), x ∈ onesFrom b k n ↔ ∃ i : Nat, x = i ∧ k ≤ i ∧ i < k + n ∧ b.testBit i = true := by
  intro n
  induction n with
  | zero => intro k x; simp [onesFrom]; omega
  | succ n ih =>
    intro k x
    simp only [onesFrom]
    split
    · rename_i h
      rw [List.mem_cons, ih]
      constructor
      · rintro (rfl | ⟨i, h1, h2, h3, h4⟩)
        · exact ⟨k, rfl, by omega, by omega, h⟩
        · exact ⟨i, h1, by omega, by omega, h4⟩
      · rintro ⟨i, h1, h2, h3, h4⟩
        by_cases e : i = k
        · left; omega
        · right; exact ⟨i, h1, by omega, by omega, h4⟩
    · rename_i h
      rw [ih]
      constructor
      · rintro ⟨i, h1, h2, h3, h4⟩; exact ⟨i, h1, by omega, by omega, h4⟩
      · rintro ⟨i, h1, h2, h3, h4⟩
        by_cases e : i = k
        · subst e; exact absurd h4 h
        · exact ⟨i, h1, by omega, by omega, h4⟩
/-- From one place on: either none, or the next one and what is behind it. -/
theorem onesFrom_next {b : Nat} : ∀ (n k : Nat) (r : Int), k + n = 64 → IsNext b k r → onesFrom b k n = if r < 0 then [] else r :: onesFrom b (r.toNat + 1) (63 - r.toNat) := by
  intro n
  induction n with
  | zero =>
    intro k r hk h
    rcases h with ⟨h1, h2⟩ | ⟨h0, h1, h2, h3⟩
    · simp [onesFrom, h1]
    · have := bitN_range h2; omega
  | succ n ih =>
    intro k r hk h
    have hbit : bitN b (k : Int) = b.testBit k := bitN_nat (by omega)
    simp only [onesFrom]
    rcases h with ⟨h1, h2⟩ | ⟨h0, h1, h2, h3⟩
    · have : b.testBit k = false := by rw [← hbit]; exact h2 k (by omega)
      rw [this, if_neg (by simp), ih (k + 1) r (by omega) (.inl ⟨h1, fun i hi => h2 i (by omega)⟩)]
    · by_cases e : (k : Int) = r
      · subst e
        rw [← hbit, h2, if_pos rfl, if_neg (by omega)]
        congr 2
        omega
      · have : b.testBit k = false := by rw [← hbit]; exact h3 k (by omega) (by omega)
        rw [this, if_neg (by simp), ih (k + 1) r (by omega) (.inr ⟨h0, by omega, h2, fun i hi => h3 i (by omega)⟩)]

theorem all_loop {b : Nat} (hb : b < 18446744073709551616) {H0 : AH} (hT : Tab H0) (x2 : Value) : ∀ (n k : Nat) (r : Int) (s : Value) (l : List Int) (H : AH), k + n = 64 → l.length ≤ k → IsNext b k r → Keeps H0 H → Own H0 H s l →
    ∃ s' H', bits_All_k4 (vu b) x2 s (vi r) H = some (s', H') ∧ Keeps H0 H' ∧ Own H0 H' s' (l ++ onesFrom b k n) := by
  intro n
  induction n using Nat.strongRecOn with
  | ind n ih =>
    intro k r s l H hk hl hr hK hO
    rw [bits_All_k4_eq, bin_geq, Option.bind_some, condK_b, onesFrom_next n k r hk hr]
    by_cases h0 : r < 0
    · have : ¬ (0 ≤ r) := by omega
      rw [if_neg (by simp [this]), if_pos h0, bits_All_e3_0_eq, bits_All_k1_eq]
      exact ⟨s, H, rfl, hK, by simpa using hO⟩
    · have h1 : 0 ≤ r := by omega
      have hrk : (k : Int) ≤ r ∧ r < 64 := by
        rcases hr with ⟨h1, h2⟩ | ⟨h0, h1, h2, h3⟩
        · omega
        · exact ⟨h1, (bitN_range h2).2⟩
      rw [if_pos (by simp [h1]), if_neg h0, bits_All_k5_eq]
      obtain ⟨s', H', hK', hO', he⟩ := app_one (R := Value × AH) hK hO r (by omega)
      rw [he]
      simp only
      rw [bits_All_k6_eq, bin_add_i (by omega) (by omega), Option.bind_some]
      obtain ⟨r2, e2, n2⟩ := next_spec hb (r + 1) (hT.keep hK')
      rw [e2]
      simp only [Option.bind_some]
      have c : (((r.toNat + 1 : Nat)) : Int) = r + 1 := by omega
      obtain ⟨s3, H3, e3, k3, o3⟩ := ih (63 - r.toNat) (by omega) (r.toNat + 1) r2 s' (l ++ [r]) H' (by omega) (by simp; omega) (by rw [c]; exact n2) hK' hO'
      refine ⟨s3, H3, e3, k3, ?_⟩
      simpa using o3
theorem all_spec {b : Nat} (hb : b < 18446744073709551616) {H : AH} (hT : Tab H) : ∃ s H', FF n_bits_All [vu b] H = some (s, H') ∧ Keeps H H' ∧ Own H H' s (onesOf b) := by
  obtain ⟨r, e, n⟩ := next_spec hb 0 hT
  obtain ⟨s, H', e2, k2, o2⟩ := all_loop hb hT (.slice none 0 0) 64 0 r (.slice none 0 0) [] H rfl (Nat.le_refl _) n (Keeps.refl H) .nil
  refine ⟨s, H', ?_, k2, by simpa [onesOf] using o2⟩
  apply bits_All_of
  rw [bits_All_eq, bits_All_k0_eq, e]
  simp only [Option.bind_some]
  rw [bits_All_k2_eq]
  exact e2

theorem fill2 (x y : Int) : pFill (offs 1) (List.replicate 2 [Value.int .i64 0]).flatten [(0, vi x), (1, vi y)] = some [vi x, vi y] := by
  simp [pFill, offs, splice, Value.cells]
theorem IsNext.val {b : Nat} {a r : Int} (h : IsNext b a r) {x : Int} (hx : IsNext b a x) : r = x := h.uniq hx
theorem awake_spec {H : AH} (hT : Tab H) : ∃ H', FF n_weighbridgelaw03_awake [] H = some (vb true, H') ∧ Keeps H H' := by
  obtain ⟨r, e, n⟩ := next_spec (b := 10) (by omega) 2 hT
  have er : r = 3 := n.uniq (.inr ⟨by omega, by omega, by decide, fun i h1 h2 => by
    have : i = 2 := by omega
    subst this; decide⟩)
  subst er
  obtain ⟨r, e', n'⟩ := last_spec (b := 10) (by omega) 2 H
  have er : r = 1 := n'.uniq (.inr ⟨by omega, by omega, by decide, fun i h1 h2 => by
    have : i = 2 := by omega
    subst this; decide⟩)
  subst er
  have w := with_spec (b := 0) (by omega) 3 H
  have hs := has_spec (b := 8) (by omega) 3 H
  have m := many_spec (b := 7) (by omega) H
  obtain ⟨s, H1, ea, ka, oa⟩ := all_spec (b := 5) (by omega) hT
  have e3 : (0 ||| maskN 3 : Nat) = 8 := by decide
  have e4 : bitN 8 3 = true := by decide
  have e5 : (onesOf 7).length = 3 := by decide
  have e6 : onesOf 5 = [0, 2] := by decide
  rw [e3] at w
  rw [e4] at hs
  rw [e5] at m
  rw [e6] at oa
  have kp := Keeps.push H1 (.cells false [vi 0, vi 2])
  have pl : FF n_weighbridgehelp_Plainint [s, Value.slice (some ⟨H1.size, 0, none⟩) 2 1] (H1.push (.cells false [vi 0, vi 2])) = _ := plain_spec (H := H1.push (.cells false [vi 0, vi 2])) (oa.keep kp).ints (.row H1.size false [0, 2] (AH.get_push_new _ _)) (by decide)
  refine ⟨H1.push (.cells false [vi 0, vi 2]), ?_, ka.trans kp⟩
  apply weighbridgelaw03_awake_of
  rw [weighbridgelaw03_awake_eq]
  have a1 : FF n_bits_Next [(Value.int .u64 10), (Value.int .i64 2)] H = _ := e
  have a2 : FF n_bits_Last [(Value.int .u64 10), (Value.int .i64 2)] H = _ := e'
  have a3 : FF n_bits_With [(Value.int .u64 0), (Value.int .i64 3)] H = _ := w
  have a4 : FF n_bits_Has [(Value.int .u64 8), (Value.int .i64 3)] H = _ := hs
  have a5 : FF n_bits_Many [(Value.int .u64 7)] H = _ := m
  have a6 : FF n_bits_All [(Value.int .u64 5)] H = _ := ea
  have a7 : pFill (offs 1) (List.replicate 2 [(Value.int .i64 0)]).flatten [(0, (Value.int .i64 0)), (1, (Value.int .i64 2))] = _ := fill2 0 2
  rw [a1, Option.bind_some]
  simp only
  rw [show pBin .other .eql (vi 3) (Value.int .i64 3) = some (vb true) from rfl, Option.bind_some, onK_tt, a2, Option.bind_some, onK_tt]
  simp only
  rw [show pBin .other .eql (vi 1) (Value.int .i64 1) = some (vb true) from rfl, Option.bind_some, Option.bind_some, pick_t, Option.bind_some, onK_tt, a3, Option.bind_some, onK_tt]
  simp only
  rw [show pBin .other .eql (vu 8) (Value.int .u64 8) = some (vb true) from rfl, Option.bind_some, Option.bind_some, pick_t, Option.bind_some, onK_tt, a4, Option.bind_some, pick_t, Option.bind_some, onK_tt, a5, Option.bind_some, onK_tt]
  simp only
  rw [show pBin .other .eql (vi ((3 : Nat) : Int)) (Value.int .i64 3) = some (vb true) from rfl, Option.bind_some, Option.bind_some, pick_t, Option.bind_some, onK_tt, a6, Option.bind_some, onK_tt, a7, Option.bind_some]
  simp only [rowK, Option.bind_some]
  rw [onK_tt, pl, Option.bind_some, pick_t, Option.bind_some]
  rfl
end Go.Proofs.YtofbcaheogfkeaaDoor.Gst
