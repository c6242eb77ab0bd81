/- Plain laws of pace: windows of picks, tries. No program in sight. -/
set_option linter.unusedVariables false
namespace Go.Proofs.YtbjelopcelompaaGreatDoor.Gst
/-! ### Windows -/
def win (l : List Int) (a b : Nat) : List Int := (l.take b).drop a
theorem win_snoc {l : List Int} {a b : Nat} (hab : a ≤ b) (hb : b < l.length) : win l a (b + 1) = win l a b ++ [l[b]] := by
  unfold win
  rw [← List.take_append_getElem hb, List.drop_append_of_le_length (by rw [List.length_take]; omega)]
theorem win_cons {l : List Int} {a b : Nat} (hab : a < b) (hb : b ≤ l.length) : win l a b = l[a] :: win l (a + 1) b := by
  unfold win
  have h : a < (l.take b).length := by rw [List.length_take]; omega
  rw [List.drop_eq_getElem_cons h]
  simp
theorem win_len {l : List Int} {a b : Nat} (hb : b ≤ l.length) : (win l a b).length = b - a := by
  unfold win
  rw [List.length_drop, List.length_take, Nat.min_eq_left hb]
theorem mem_win {l : List Int} {a b : Nat} {x : Int} (hb : b ≤ l.length) : x ∈ win l a b ↔ ∃ j, ∃ h : j < l.length, a ≤ j ∧ j < b ∧ l[j] = x := by
  unfold win
  rw [List.mem_iff_getElem]
  constructor
  · rintro ⟨i, hi, e⟩
    rw [List.length_drop, List.length_take] at hi
    rw [List.getElem_drop, List.getElem_take] at e
    exact ⟨a + i, by omega, by omega, by omega, e⟩
  · rintro ⟨j, h, h1, h2, e⟩
    refine ⟨j - a, by rw [List.length_drop, List.length_take]; omega, ?_⟩
    rw [List.getElem_drop, List.getElem_take]
    simp only [show a + (j - a) = j from by omega]
    exact e
def cnt (l : List Int) (a b w : Nat) : Nat := (win l a b).count (w : Int)
theorem cnt_snoc {l : List Int} {a b w : Nat} (hab : a ≤ b) (hb : b < l.length) : cnt l a (b + 1) w = cnt l a b w + if l[b] = (w : Int) then 1 else 0 := by
  unfold cnt
  rw [win_snoc hab hb, List.count_append, List.count_singleton]
  congr 1
  by_cases h : l[b] = (w : Int) <;> simp [h]
theorem cnt_cons {l : List Int} {a b w : Nat} (hab : a < b) (hb : b ≤ l.length) : cnt l a b w = cnt l (a + 1) b w + if l[a] = (w : Int) then 1 else 0 := by
  unfold cnt
  rw [win_cons hab hb, List.count_cons]
  congr 1
  by_cases h : l[a] = (w : Int) <;> simp [h]
theorem cnt_le {l : List Int} {a b w : Nat} : cnt l a b w ≤ l.length := by
  unfold cnt
  refine Nat.le_trans List.count_le_length ?_
  unfold win
  rw [List.length_drop, List.length_take]
  omega
theorem cnt_zero {l : List Int} {a b w : Nat} : cnt l a b w = 0 ↔ ¬ (w : Int) ∈ win l a b := List.count_eq_zero
/-- How often a window has each of n workers. -/
def manyOf (l : List Int) (n a b : Nat) : List Int := (List.range n).map fun w => (cnt l a b w : Int)
theorem manyOf_none (l : List Int) (n a : Nat) : manyOf l n a 0 = List.replicate n 0 := by
  unfold manyOf cnt win
  rw [List.take_zero, List.drop_nil]
  apply List.ext_getElem
  · simp
  · intro i h1 h2; simp
theorem manyOf_len {l : List Int} {n a b : Nat} : (manyOf l n a b).length = n := by simp [manyOf]
theorem manyOf_at {l : List Int} {n a b i : Nat} (h : i < (manyOf l n a b).length) : (manyOf l n a b)[i] = (cnt l a b i : Int) := by simp [manyOf]
/-- One worker's count is another one. -/
def bump (m : List Int) (who by' : Int) : List Int := if 0 ≤ who ∧ who < m.length then m.set who.toNat (m.getD who.toNat 0 + by') else m
theorem bump_len {m : List Int} {who by' : Int} : (bump m who by').length = m.length := by unfold bump; split <;> simp
theorem bump_get (m : List Int) (who by' : Int) (i : Nat) : (bump m who by')[i]? = (m[i]?).map fun x => x + if who = (i : Int) then by' else 0 := by
  unfold bump
  by_cases hw : 0 ≤ who ∧ who < m.length
  · rw [if_pos hw, List.getElem?_set]
    by_cases e : who.toNat = i
    · have hi : i < m.length := by omega
      rw [if_pos e, if_pos (by omega), if_pos (by omega)]
      subst e
      simp [List.getElem?_eq_getElem hi]
    · rw [if_neg e, if_neg (by omega)]
      simp
  · rw [if_neg hw]
    by_cases hi : i < m.length
    · rw [if_neg (by omega)]; simp
    · rw [List.getElem?_eq_none (by omega)]; rfl
theorem bump_at {m : List Int} {who by' : Int} {i : Nat} (h : i < (bump m who by').length) : (bump m who by')[i] = m[i]'(by rw [bump_len] at h; exact h) + if who = (i : Int) then by' else 0 := by
  have hi : i < m.length := by rw [bump_len] at h; exact h
  have := bump_get m who by' i
  rw [List.getElem?_eq_getElem h, List.getElem?_eq_getElem hi] at this
  simpa using this
theorem bump_come {l : List Int} {n a b : Nat} (hab : a ≤ b) (hb : b < l.length) : bump (manyOf l n a b) l[b] 1 = manyOf l n a (b + 1) := by
  apply List.ext_getElem
  · rw [bump_len, manyOf_len, manyOf_len]
  · intro i h1 h2
    rw [bump_at, manyOf_at, manyOf_at, cnt_snoc hab hb]
    split <;> omega
theorem bump_go {l : List Int} {n a b : Nat} (hab : a < b) (hb : b ≤ l.length) : bump (manyOf l n a b) (l[a]'(by omega)) (-1) = manyOf l n (a + 1) b := by
  apply List.ext_getElem
  · rw [bump_len, manyOf_len, manyOf_len]
  · intro i h1 h2
    rw [bump_at, manyOf_at, manyOf_at, cnt_cons hab hb]
    split <;> omega
/-- Does it have each one? -/
def fullB (m : List Int) : Bool := !(m.contains 0)
theorem full_iff {l : List Int} {n a b : Nat} : fullB (manyOf l n a b) = true ↔ ∀ w : Nat, w < n → (w : Int) ∈ win l a b := by
  unfold fullB manyOf
  rw [Bool.not_eq_true', ← Bool.not_eq_true, List.contains_iff_mem]
  constructor
  · intro h w hw
    by_cases h2 : (w : Int) ∈ win l a b
    · exact h2
    · exact absurd (List.mem_map.2 ⟨w, List.mem_range.2 hw, by rw [cnt_zero.2 h2]; rfl⟩) h
  · intro h h2
    obtain ⟨w, hw, e⟩ := List.mem_map.1 h2
    have := cnt_zero.1 (by omega : cnt l a b w = 0)
    exact this (h w (List.mem_range.1 hw))

/-- Is each of 0 .. n - 1 in each window of k? -/
def evenS (l : List Int) (n k : Int) : Prop := n < 1 ∨ (1 ≤ k ∧ ∀ i : Nat, (i : Int) + k ≤ l.length → ∀ w : Nat, (w : Int) < n → (w : Int) ∈ win l i (i + k.toNat))
noncomputable def evenB (l : List Int) (n k : Int) : Bool := @decide (evenS l n k) (Classical.propDecidable _)
theorem evenB_iff {l : List Int} {n k : Int} : evenB l n k = true ↔ evenS l n k := by unfold evenB; simp
theorem evenB_of {l : List Int} {n k : Int} {b : Bool} (h : b = true ↔ evenS l n k) : evenB l n k = b := by
  rw [Bool.eq_iff_iff, evenB_iff]; exact h.symm
theorem pigeon : ∀ (n : Nat) (L : List Int), (∀ w : Nat, w < n → (w : Int) ∈ L) → n ≤ L.length := by
  intro n
  induction n with
  | zero => intro L _; omega
  | succ n ih =>
    intro L h
    have h1 := h n (by omega)
    have h2 := ih (L.erase (n : Int)) (fun w hw => (List.mem_erase_of_ne (by omega)).2 (h w (by omega)))
    rw [List.length_erase_of_mem h1] at h2
    have := List.length_pos_of_mem h1
    omega
theorem even_small {l : List Int} {n k : Int} (hn : 1 ≤ n) (hk : k < n) (hl : k ≤ l.length) : ¬ evenS l n k := by
  rintro (h | ⟨h1, h2⟩)
  · omega
  · have := pigeon n.toNat (win l 0 (0 + k.toNat)) (fun w hw => h2 0 (by omega) w (by omega))
    rw [win_len (by omega)] at this
    omega
/-- Window by window, as a slide goes. -/
theorem even_slide {l : List Int} {n k : Int} (hn : 1 ≤ n) (hk : 1 ≤ k) : evenS l n k ↔ ∀ j : Nat, j < l.length → k.toNat ≤ j + 1 → ∀ w : Nat, w < n.toNat → (w : Int) ∈ win l (j + 1 - k.toNat) (j + 1) := by
  constructor
  · rintro (h | ⟨_, h⟩) j hj hjk w hw
    · omega
    · have := h (j + 1 - k.toNat) (by omega) w (by omega)
      rw [show j + 1 - k.toNat + k.toNat = j + 1 from by omega] at this
      exact this
  · intro h
    refine .inr ⟨hk, fun i hi w hw => ?_⟩
    have := h (i + k.toNat - 1) (by omega) (by omega) w (by omega)
    rw [show i + k.toNat - 1 + 1 = i + k.toNat from by omega, show i + k.toNat - k.toNat = i from by omega] at this
    exact this

/-! ### Rounds of all workers -/
def rounds (n : Nat) (os : List Int) : List Int := os.flatMap fun o => (List.range n).map fun k : Nat => ((((k : Int) + o) % (n : Int)) : Int)
theorem rounds_snoc (n : Nat) (os : List Int) (o : Int) : rounds n (os ++ [o]) = rounds n os ++ (List.range n).map fun k : Nat => ((((k : Int) + o) % (n : Int)) : Int) := by simp [rounds]
theorem rounds_len (n : Nat) (os : List Int) : (rounds n os).length = os.length * n := by
  unfold rounds
  induction os with
  | nil => simp
  | cons o os ih => rw [List.flatMap_cons, List.length_append, ih, List.length_map, List.length_range, List.length_cons, Nat.add_mul]; omega
theorem rounds_at (n : Nat) : ∀ (os : List Int) (r k : Nat) (hr : r < os.length) (hk : k < n), (rounds n os)[r * n + k]? = some (((k : Int) + os[r]) % (n : Int)) := by
  intro os
  induction os with
  | nil => intro r k hr; simp at hr
  | cons o os ih =>
    intro r k hr hk
    unfold rounds
    rw [List.flatMap_cons]
    cases r with
    | zero =>
      rw [Nat.zero_mul, Nat.zero_add, List.getElem?_append_left (by simp; exact hk)]
      simp [hk]
    | succ r =>
      rw [List.getElem?_append_right (by simp [Nat.add_mul]; omega)]
      have e : (r + 1) * n + k - ((List.range n).map fun k : Nat => ((((k : Int) + o) % (n : Int)) : Int)).length = r * n + k := by
        rw [List.length_map, List.length_range, Nat.add_mul]; omega
      rw [e]
      have := ih r k (by simpa using hr) hk
      unfold rounds at this
      rw [this]
      simp
theorem rounds_below {n : Nat} (hn : 0 < n) {os : List Int} {x : Int} (h : x ∈ rounds n os) : 0 ≤ x ∧ x < n := by
  unfold rounds at h
  obtain ⟨o, _, h⟩ := List.mem_flatMap.1 h
  obtain ⟨k, _, rfl⟩ := List.mem_map.1 h
  exact ⟨Int.emod_nonneg _ (by omega), Int.emod_lt_of_pos _ (by omega)⟩
/-- A round that lies in a window has each one. -/
theorem rounds_win {n : Nat} (hn : 0 < n) {os : List Int} {a b r w : Nat} (hb : b ≤ (rounds n os).length) (h1 : a ≤ r * n) (h2 : (r + 1) * n ≤ b) (hw : w < n) : (w : Int) ∈ win (rounds n os) a b := by
  rw [mem_win hb]
  rw [rounds_len] at hb
  have hr : r < os.length := by
    have : (r + 1) * n ≤ os.length * n := by omega
    have := Nat.le_of_mul_le_mul_right this hn
    omega
  let k : Int := ((w : Int) - os[r]) % (n : Int)
  have k0 : 0 ≤ k := Int.emod_nonneg _ (by omega)
  have k1 : k < n := Int.emod_lt_of_pos _ (by omega)
  have hk := rounds_at n os r k.toNat hr (by omega)
  rw [Nat.add_mul] at h2
  have hv : ((k.toNat : Int) + os[r]) % (n : Int) = w := by
    rw [Int.toNat_of_nonneg k0, Int.emod_add_emod, Int.sub_add_cancel, Int.emod_eq_of_lt (by omega) (by omega)]
  rw [hv] at hk
  obtain ⟨hlt, he⟩ := List.getElem?_eq_some_iff.1 hk
  exact ⟨r * n + k.toNat, hlt, by omega, by omega, he⟩
theorem rounds_even {n : Nat} (hn : 0 < n) (os : List Int) {m k : Int} (hm : m ≤ n) (hk : 2 * (n : Int) - 1 ≤ k) : evenS (rounds n os) m k := by
  refine .inr ⟨by omega, fun i hi w hw => ?_⟩
  refine rounds_win hn (r := (i + n - 1) / n) (by omega) ?_ ?_ (by omega)
  · have h1 := Nat.div_add_mod (i + n - 1) n
    have h2 := Nat.mod_lt (i + n - 1) hn
    rw [Nat.mul_comm] at h1
    omega
  · have h1 := Nat.div_add_mod (i + n - 1) n
    rw [Nat.mul_comm] at h1
    rw [Nat.add_mul]
    omega
theorem rounds_not {n : Nat} (hn : 0 < n) (os : List Int) {k : Int} (hk : 1 ≤ k) (hl : k ≤ (rounds n os).length) : ¬ evenS (rounds n os) (n + 1) k := by
  rintro (h | ⟨_, h⟩)
  · omega
  · have := h 0 (by omega) n (by omega)
    have h2 : (n : Int) ∈ rounds n os := List.mem_of_mem_take (List.mem_of_mem_drop this)
    have := rounds_below hn h2
    omega
theorem rounds_short {n : Nat} (hn : 0 < n) (os : List Int) {k : Int} (hk : 1 ≤ k) (hl : ¬ k ≤ (rounds n os).length) : evenS (rounds n os) (n + 1) k :=
  .inr ⟨hk, fun i hi => by omega⟩
end Go.Proofs.YtbjelopcelompaaGreatDoor.Gst
