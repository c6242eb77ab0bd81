/- BitsNext and BitsFar, in plain Lean. -/
import Derived.Test.YtofbcaheogfkeaaDoorSh
namespace Go.Proofs.YtofbcaheogfkeaaDoor.Gst
open Go Go.RowKit
set_option linter.unusedSimpArgs false
set_option maxRecDepth 100000

def firstGe (a : Int) (l : List Int) : Int := (l.find? fun x => decide (a ≤ x)).getD (-1)
def lastLe (a : Int) : List Int → Int → Int
  | [], r => r
  | x :: xs, r => lastLe a xs (if x ≤ a then x else r)
theorem lastLe_snoc (a x : Int) : ∀ (l : List Int) (r : Int), lastLe a (l ++ [x]) r = if x ≤ a then x else lastLe a l r := by
  intro l
  induction l with
  | nil => intro r; rfl
  | cons y ys ih => intro r; exact ih _
theorem firstGe_snoc (a x : Int) (l : List Int) (h : ∀ y ∈ l, 0 ≤ y) : firstGe a (l ++ [x]) = if a ≤ x ∧ firstGe a l < 0 then x else firstGe a l := by
  unfold firstGe
  rw [List.find?_append]
  cases e : l.find? fun x => decide (a ≤ x) with
  | some y =>
    have := h y (List.mem_of_find?_eq_some e)
    have h2 : ¬ (a ≤ x ∧ y < 0) := by omega
    simp [h2]
  | none =>
    simp only [Option.none_or, Option.getD_none]
    by_cases hx : a ≤ x
    · simp [hx]
    · simp [hx]

theorem take_snoc {α : Type} (l : List α) (k : Nat) (h : k < l.length) : l.take (k + 1) = l.take k ++ [l[k]] := by
  rw [List.take_add_one, List.getElem?_eq_getElem h]; rfl

theorem next_loop {H : AH} {s : Value} {l : List Int} (hs : Ints H s l) (hl : l.length ≤ 64) (hp : ∀ y ∈ l, 0 ≤ y) (a : Int) (x0 x4 : Value) : ∀ (n k : Nat), k + n = l.length →
    weighbridgelaw03_BitsNext_k19 x0 (vi a) x4 (vi (firstGe a (l.take k))) (vi (lastLe a (l.take k) (-1))) s (vi k) H = weighbridgelaw03_BitsNext_k3 x0 (vi a) x4 (vi (firstGe a l)) (vi (lastLe a l (-1))) H := by
  intro n
  induction n with
  | zero =>
    intro k hk
    rw [weighbridgelaw03_BitsNext_k19_eq, ints_len hs]
    have h1 : ¬ ((k : Int) < l.length) := by omega
    simp only [bin_lss, Option.bind_some, condK_b, h1, decide_false, if_false, Bool.false_eq_true]
    rw [weighbridgelaw03_BitsNext_e18_0_eq, List.take_of_length_le (by omega)]
  | succ n ih =>
    intro k hk
    have hkl : k < l.length := by omega
    rw [weighbridgelaw03_BitsNext_k19_eq, ints_len hs]
    have h1 : (k : Int) < l.length := by omega
    simp only [bin_lss, Option.bind_some, condK_b, h1, decide_true, if_true]
    have step : weighbridgelaw03_BitsNext_k21 x0 (vi a) x4 (vi (firstGe a (l.take (k + 1)))) (vi (lastLe a (l.take (k + 1)) (-1))) s (vi k) H = weighbridgelaw03_BitsNext_k3 x0 (vi a) x4 (vi (firstGe a l)) (vi (lastLe a l (-1))) H := by
      rw [weighbridgelaw03_BitsNext_k21_eq, bin_add_i (by omega) (by omega), Option.bind_some]
      exact ih (k + 1) (by omega)
    rw [take_snoc l k hkl, firstGe_snoc a _ _ (fun y hy => hp y (List.mem_of_mem_take hy)), lastLe_snoc] at step
    have k24 : ∀ f, (f = if a ≤ l[k] ∧ firstGe a (l.take k) < 0 then l[k] else firstGe a (l.take k)) → weighbridgelaw03_BitsNext_k24 x0 (vi a) x4 (vi f) (vi (lastLe a (l.take k) (-1))) s (vi k) H = weighbridgelaw03_BitsNext_k3 x0 (vi a) x4 (vi (firstGe a l)) (vi (lastLe a l (-1))) H := by
      intro f hf
      rw [← hf] at step
      rw [weighbridgelaw03_BitsNext_k24_eq, ints_at hs (Keeps.refl H) hkl, bin_leq, Option.bind_some, condK_b, ints_at hs (Keeps.refl H) hkl]
      by_cases h : l[k] ≤ a
      · rw [decide_eq_true h, if_pos rfl]
        rw [if_pos h] at step
        exact step
      · rw [decide_eq_false h, if_neg (by simp)]
        rw [if_neg h] at step
        exact step
    rw [weighbridgelaw03_BitsNext_k20_eq, ints_at hs (Keeps.refl H) hkl, bin_geq, Option.bind_some]
    by_cases h : a ≤ l[k]
    · rw [decide_eq_true h, onK_tt, Option.bind_some, onK_tt, bin_lss, Option.bind_some, Option.bind_some, pick_t, Option.bind_some, condK_b, ints_at hs (Keeps.refl H) hkl]
      by_cases h2 : firstGe a (l.take k) < 0
      · rw [decide_eq_true h2, if_pos rfl]
        exact k24 _ (by rw [if_pos ⟨h, h2⟩])
      · rw [decide_eq_false h2, if_neg (by simp)]
        exact k24 _ (by rw [if_neg (fun x => h2 x.2)])
    · rw [decide_eq_false h, onK_ft, Option.bind_some, onK_ft, Option.bind_some, pick_f, Option.bind_some, cond_f]
      exact k24 _ (by rw [if_neg (fun x => h x.1)])

/-! ### The first one, and the last one -/
theorem onesFrom_sorted (b : Nat) : ∀ (n k : Nat), (onesFrom b k n).Pairwise (· < ·) := by
  intro n
  induction n with
  | zero => intro k; exact .nil
  | succ n ih =>
    intro k
    simp only [onesFrom]
    split
    · refine List.pairwise_cons.2 ⟨fun x hx => ?_, ih _⟩
      obtain ⟨i, rfl, h1, _⟩ := (onesFrom_mem b n (k + 1) x).1 hx
      omega
    · exact ih _
theorem firstGe_isNext (b : Nat) (a : Int) : IsNext b a (firstGe a (onesOf b)) := by
  unfold firstGe
  cases e : (onesOf b).find? fun x => decide (a ≤ x) with
  | none =>
    simp only [Option.getD_none]
    refine .inl ⟨rfl, fun i hi => ?_⟩
    rw [List.find?_eq_none] at e
    cases hb : bitN b i with
    | false => rfl
    | true => exact absurd (decide_eq_true hi) (e i (onesOf_mem.2 hb))
  | some y =>
    simp only [Option.getD_some]
    have hm := List.mem_of_find?_eq_some e
    have hy := List.find?_some e
    have hb := onesOf_mem.1 hm
    refine .inr ⟨(bitN_range hb).1, by simpa using hy, hb, fun i h1 h2 => ?_⟩
    cases hbi : bitN b i with
    | false => rfl
    | true =>
      have hi := onesOf_mem.2 hbi
      obtain ⟨_, l1, l2, hl, hall⟩ := List.find?_eq_some_iff_append.1 e
      rw [hl] at hi
      have hs := onesFrom_sorted b 64 0
      have hs : (onesOf b).Pairwise (· < ·) := hs
      rw [hl] at hs
      rcases List.mem_append.1 hi with h | h
      · have := hall i h
        simp only [Bool.not_eq_eq_eq_not, Bool.not_true, decide_eq_false_iff_not] at this
        omega
      · rcases List.mem_cons.1 h with h | h
        · omega
        · have := (List.pairwise_cons.1 (List.pairwise_append.1 hs).2.1).1 i h
          omega
theorem lastLe_spec (a : Int) : ∀ (l : List Int) (r : Int), l.Pairwise (· < ·) → (∀ x ∈ l, r < x) → (lastLe a l r = r ∧ ∀ x ∈ l, ¬ x ≤ a) ∨ (lastLe a l r ∈ l ∧ lastLe a l r ≤ a ∧ ∀ x ∈ l, x ≤ a → x ≤ lastLe a l r) := by
  intro l
  induction l with
  | nil => intro r _ _; exact .inl ⟨rfl, by simp⟩
  | cons y ys ih =>
    intro r hs hr
    obtain ⟨h1, h2⟩ := List.pairwise_cons.1 hs
    simp only [lastLe]
    by_cases hy : y ≤ a
    · rw [if_pos hy]
      rcases ih y h2 h1 with ⟨e, h3⟩ | ⟨h3, h4, h5⟩
      · rw [e]
        refine .inr ⟨by simp, hy, fun x hx hxa => ?_⟩
        rcases List.mem_cons.1 hx with rfl | hx
        · omega
        · exact absurd hxa (h3 x hx)
      · refine .inr ⟨by simp [h3], h4, fun x hx hxa => ?_⟩
        rcases List.mem_cons.1 hx with rfl | hx
        · have := h1 _ h3; omega
        · exact h5 x hx hxa
    · rw [if_neg hy]
      rcases ih r h2 (fun x hx => by have := h1 x hx; have := hr y (by simp); omega) with ⟨e, h3⟩ | ⟨h3, h4, h5⟩
      · refine .inl ⟨e, fun x hx => ?_⟩
        rcases List.mem_cons.1 hx with rfl | hx
        · exact hy
        · exact h3 x hx
      · refine .inr ⟨by simp [h3], h4, fun x hx hxa => ?_⟩
        rcases List.mem_cons.1 hx with rfl | hx
        · exact absurd hxa hy
        · exact h5 x hx hxa
theorem lastLe_isLast (b : Nat) (a : Int) : IsLast b a (lastLe a (onesOf b) (-1)) := by
  rcases lastLe_spec a (onesOf b) (-1) (onesFrom_sorted b 64 0) (fun x hx => by have := (bitN_range (onesOf_mem.1 hx)).1; omega) with ⟨e, h⟩ | ⟨h1, h2, h3⟩
  · refine .inl ⟨e, fun i hi => ?_⟩
    cases hb : bitN b i with
    | false => rfl
    | true => exact absurd hi (h i (onesOf_mem.2 hb))
  · have hb := onesOf_mem.1 h1
    refine .inr ⟨(bitN_range hb).1, h2, hb, fun i hi hlt => ?_⟩
    cases hbi : bitN b i with
    | false => rfl
    | true => have := h3 i (onesOf_mem.2 hbi) hi; omega

theorem conv_u64 (n : Int) : pConv (some .u64) (vi n) = some (vu (n % 18446744073709551616).toNat) := by
  simp only [pConv]
  rw [wrap_u]
  have : ((n % 18446744073709551616).toNat : Int) = n % 18446744073709551616 := by omega
  show _ = some (Value.int .u64 ((n % 18446744073709551616).toNat : Int))
  rw [this]
theorem bitsNext {b : Nat} (hb : b < 18446744073709551616) (a : Int) {H : AH} (hT : Tab H) : ∃ H', FF n_weighbridgelaw03_BitsNext [vu b, vi a] H = some (vb true, H') := by
  obtain ⟨s, H1, e1, k1, o1⟩ := bits_spec hb H
  obtain ⟨H2, e2, k2⟩ := awake_spec (hT.keep k1)
  have run : ∀ a x4, weighbridgelaw03_BitsNext_k1 (vu b) (vi a) x4 H = some (vb true, H2) := by
    intro a x4
    obtain ⟨r, e3, n3⟩ := next_spec hb a ((hT.keep k1).keep k2)
    obtain ⟨r', e4, n4⟩ := last_spec hb a H2
    have er := n3.uniq (firstGe_isNext b a)
    have er' := n4.uniq (lastLe_isLast b a)
    have lp := next_loop o1.ints (onesOf_len b) (fun y hy => (bitN_range (onesOf_mem.1 hy)).1) a (vu b) x4 (onesOf b).length 0 (by omega)
    simp only [List.take_zero] at lp
    rw [weighbridgelaw03_BitsNext_k1_eq, e1, Option.bind_some, weighbridgelaw03_BitsNext_k2_eq, weighbridgelaw03_BitsNext_k17_eq]
    have lp : weighbridgelaw03_BitsNext_k19 (vu b) (vi a) x4 (Value.int .i64 (-1)) (Value.int .i64 (-1)) s (Value.int .i64 0) H1 = _ := lp
    rw [lp, ← er, ← er', weighbridgelaw03_BitsNext_k3_eq, e2]
    simp only [onK_tt, pick_t, Option.bind_some, e3, e4, bin_eql, beq_self_eq_true]
  refine ⟨H2, ?_⟩
  apply weighbridgelaw03_BitsNext_of
  rw [weighbridgelaw03_BitsNext_eq, weighbridgelaw03_BitsNext_k0_eq, bin_gtr, Option.bind_some, condK_b, conv_u64, Option.bind_some]
  have r : ∀ n : Nat, pBin .other .rem (vu n) (Value.int .u64 70) = some (vu (n % 70)) := fun n => bin_rem_u (cl := .other) (a := n) (b := 70) (by omega)
  rw [r, Option.bind_some]
  have c : pConv (some .i64) (vu ((a % 18446744073709551616).toNat % 70)) = some (vi (((a % 18446744073709551616).toNat % 70 : Nat) : Int)) := by
    simp only [pConv]
    rw [wrap_i_of (by omega) (by omega)]
  rw [c, Option.bind_some]
  by_cases h : 40 < a
  · rw [decide_eq_true h, if_pos rfl, run]
  · rw [decide_eq_false h, if_neg (by simp), run]

theorem bitsFar {b : Nat} (hb : b < 18446744073709551616) (far : Int) {H : AH} (hT : Tab H) : ∃ H', FF n_weighbridgelaw03_BitsFar [vu b, vi far] H = some (vb true, H') := by
  obtain ⟨s, H1, e1, k1, o1⟩ := bits_spec hb H
  obtain ⟨H2, e2, k2⟩ := awake_spec (hT.keep k1)
  obtain ⟨r1, e3, n3⟩ := next_spec hb (min far (-1)) ((hT.keep k1).keep k2)
  obtain ⟨r2, e4, n4⟩ := next_spec hb (max far 64) ((hT.keep k1).keep k2)
  obtain ⟨r3, e5, n5⟩ := last_spec hb (min far (-1)) H2
  obtain ⟨r4, e6, n6⟩ := last_spec hb (max far 64) H2
  have d2 : r2 = -1 := n4.uniq (.inl ⟨rfl, fun i hi => bitN_out (by omega)⟩)
  have d3 : r3 = -1 := n5.uniq (.inl ⟨rfl, fun i hi => bitN_out (by omega)⟩)
  subst d2 d3
  have fin : ∀ x4, weighbridgelaw03_BitsFar_k1 (vu b) x4 (vi (min far (-1))) (vi (max far 64)) (vi r1) (vi r4) H1 = some (vb true, H2) := by
    intro x4
    rw [weighbridgelaw03_BitsFar_k1_eq, e2]
    simp only [onK_tt, pick_t, Option.bind_some, e3, e4, e5, e6, bin_eql, beq_self_eq_true]
  have hs := onesFrom_sorted b 64 0
  have hs : (onesOf b).Pairwise (· < ·) := hs
  have l64 := onesOf_len b
  refine ⟨H2, ?_⟩
  apply weighbridgelaw03_BitsFar_of
  rw [weighbridgelaw03_BitsFar_eq]
  have mx : pMax [vi far, (Value.int .i64 64)] = _ := max_i
  have mn : pMin [vi far, (Value.int .i64 (-1))] = _ := min_i
  rw [mn, Option.bind_some, mx, Option.bind_some, e1, Option.bind_some, weighbridgelaw03_BitsFar_k0_eq, ints_len o1.ints, bin_gtr, Option.bind_some, condK_b]
  by_cases h0 : (0 : Int) < ((onesOf b).length : Int)
  · rw [decide_eq_true h0, if_pos rfl]
    have a0 := fun k => ints_at (R := Value × AH) o1.ints (Keeps.refl H1) (i := 0) (by omega) k
    have a1 := fun k => ints_at (R := Value × AH) o1.ints (Keeps.refl H1) (i := (onesOf b).length - 1) (by omega) k
    have f1 : (onesOf b)[0] = r1 := by
      apply IsNext.uniq (b := b) (a := min far (-1)) _ n3
      have hb0 := onesOf_mem.1 (List.getElem_mem (l := onesOf b) (n := 0) (by omega))
      have := bitN_range hb0
      refine .inr ⟨this.1, by omega, hb0, fun i h1 h2 => ?_⟩
      cases hbi : bitN b i with
      | false => rfl
      | true =>
        obtain ⟨j, hj, rfl⟩ := List.mem_iff_getElem.1 (onesOf_mem.2 hbi)
        by_cases hj0 : j = 0
        · subst hj0; omega
        · have := List.pairwise_iff_getElem.1 hs 0 j (by omega) hj (by omega)
          omega
    have f2 : (onesOf b)[(onesOf b).length - 1] = r4 := by
      apply IsLast.uniq (b := b) (a := max far 64) _ n6
      have hb0 := onesOf_mem.1 (List.getElem_mem (l := onesOf b) (n := (onesOf b).length - 1) (by omega))
      have := bitN_range hb0
      refine .inr ⟨this.1, by omega, hb0, fun i h1 h2 => ?_⟩
      cases hbi : bitN b i with
      | false => rfl
      | true =>
        obtain ⟨j, hj, rfl⟩ := List.mem_iff_getElem.1 (onesOf_mem.2 hbi)
        by_cases hj0 : j = (onesOf b).length - 1
        · subst hj0; omega
        · have := List.pairwise_iff_getElem.1 hs j ((onesOf b).length - 1) hj (by omega) (by omega)
          omega
    have z : vi ((0 : Nat) : Int) = Value.int .i64 0 := rfl
    rw [z] at a0
    rw [a0, ints_len o1.ints, bin_sub_i (by omega) (by omega), Option.bind_some]
    have e : ((onesOf b).length : Int) - 1 = (((onesOf b).length - 1 : Nat) : Int) := by omega
    rw [e, a1, f1, f2]
    exact fin _
  · rw [decide_eq_false h0, if_neg (by simp)]
    have hnil : onesOf b = [] := List.eq_nil_of_length_eq_zero (by omega)
    have none : ∀ i, bitN b i = false := by
      intro i
      cases hbi : bitN b i with
      | false => rfl
      | true => have := onesOf_mem.2 hbi; rw [hnil] at this; simp at this
    have f1 : r1 = -1 := n3.uniq (.inl ⟨rfl, fun i _ => none i⟩)
    have f2 : r4 = -1 := n6.uniq (.inl ⟨rfl, fun i _ => none i⟩)
    subst f1 f2
    exact fin _
end Go.Proofs.YtofbcaheogfkeaaDoor.Gst
