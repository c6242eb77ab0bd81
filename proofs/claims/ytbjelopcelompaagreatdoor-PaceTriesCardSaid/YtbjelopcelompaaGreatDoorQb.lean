/- Plain laws of tries. No program in sight. -/
import Derived.Test.YtbjelopcelompaaGreatDoorIb
namespace Go.Proofs.YtbjelopcelompaaGreatDoor.Gst
def swapBy (x y : Ev) : Bool := decide (y.kind = 3 ∧ y.loc = x.loc ∧ y.who ≠ x.who)
/-- Of what lies behind, the nearest first: was a swap by another one done since the last look? -/
def back : List Ev → Ev → Bool
  | [], _ => true
  | y :: r, x => if y.loc = x.loc then (if y.kind = 3 ∧ y.who ≠ x.who then true else if y.kind = 1 ∧ y.who = x.who then false else back r x) else back r x
def tried (r : List Ev) (x : Ev) : Bool := if x.kind = 4 ∧ x.loc.1 = 11 then back r x else true
def triesFrom : List Ev → List Ev → Bool
  | _, [] => true
  | r, x :: l => tried r x && triesFrom (x :: r) l
def triesB (l : List Ev) : Bool := triesFrom [] l
/-- Where a place was looked at last. -/
def lastL : List Ev → Int × Loc → Option Nat
  | [], _ => none
  | y :: r, k => if y.kind = 1 ∧ k = (y.who, y.loc) ∧ y.loc.1 = 11 then some r.length else lastL r k
theorem lastL_lt : ∀ {r : List Ev} {k : Int × Loc} {j : Nat}, lastL r k = some j → j < r.length := by
  intro r
  induction r with
  | nil => intro k j h; cases h
  | cons y r ih =>
    intro k j h
    simp only [lastL] at h
    split at h
    · cases h; simp
    · have := ih h; simp; omega
theorem back_last (x : Ev) (hx : x.loc.1 = 11) : ∀ r : List Ev, back r x = match lastL r (x.who, x.loc) with
    | none => true
    | some j => (r.take (r.length - j)).any (swapBy x) := by
  intro r
  induction r with
  | nil => rfl
  | cons y r ih =>
    simp only [back, lastL]
    by_cases hy : y.kind = 1 ∧ (x.who, x.loc) = (y.who, y.loc) ∧ y.loc.1 = 11
    · rw [if_pos hy]
      obtain ⟨h1, h2, h3⟩ := hy
      obtain ⟨h4, h5⟩ := Prod.mk.inj h2
      rw [if_pos h5.symm, if_neg (by rw [h1]; omega), if_pos ⟨h1, h4.symm⟩]
      have : (y :: r).length - r.length = 1 := by simp
      show false = (List.take ((y :: r).length - r.length) (y :: r)).any (swapBy x)
      rw [this]
      simp [swapBy, h1]
    · rw [if_neg hy]
      have hno : y.loc = x.loc → ¬ (y.kind = 1 ∧ y.who = x.who) := fun h1 h2 => hy ⟨h2.1, by rw [h1, h2.2], by rw [h1]; exact hx⟩
      have hr : (if y.loc = x.loc then (if y.kind = 3 ∧ y.who ≠ x.who then true else if y.kind = 1 ∧ y.who = x.who then false else back r x) else back r x) = (swapBy x y || back r x) := by
        by_cases h1 : y.loc = x.loc
        · rw [if_pos h1]
          by_cases h2 : y.kind = 3 ∧ y.who ≠ x.who
          · rw [if_pos h2]; simp [swapBy, h1, h2]
          · rw [if_neg h2, if_neg (hno h1)]
            have : swapBy x y = false := by
              unfold swapBy
              exact decide_eq_false fun h => h2 ⟨h.1, h.2.2⟩
            rw [this]; rfl
        · rw [if_neg h1]
          have : swapBy x y = false := by
            unfold swapBy
            exact decide_eq_false fun h => h1 h.2.1
          rw [this]; rfl
      rw [hr, ih]
      cases hl : lastL r (x.who, x.loc) with
      | none => simp
      | some j =>
        have hj := lastL_lt hl
        simp only
        have : (y :: r).length - j = (r.length - j) + 1 := by simp; omega
        rw [this, List.take_succ_cons, List.any_cons]
theorem take_rev {l : List Ev} {i j : Nat} (hi : i ≤ l.length) (x : Ev) : (((l.take i).reverse.take (i - j))).any (swapBy x) = (((l.take i).drop j)).any (swapBy x) := by
  have hl : (l.take i).length = i := by rw [List.length_take]; omega
  by_cases hj : j ≤ i
  · rw [List.take_reverse, List.any_reverse, hl]
    rw [show i - (i - j) = j from by omega]
  · rw [show i - j = 0 from by omega, List.take_zero, List.drop_eq_nil_of_le (by omega)]
theorem rev_snoc {l : List Ev} {i : Nat} (hi : i < l.length) : (l.take (i + 1)).reverse = l[i] :: (l.take i).reverse := by
  rw [← List.take_append_getElem hi, List.reverse_append]
  rfl
theorem tries_step {l : List Ev} {i : Nat} (hi : i < l.length) : triesFrom (l.take i).reverse (l.drop i) = (tried (l.take i).reverse l[i] && triesFrom (l.take (i + 1)).reverse (l.drop (i + 1))) := by
  rw [List.drop_eq_getElem_cons hi, rev_snoc hi]
  rfl
end Go.Proofs.YtbjelopcelompaaGreatDoor.Gst
