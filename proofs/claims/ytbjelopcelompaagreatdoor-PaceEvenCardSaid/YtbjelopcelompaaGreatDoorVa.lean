/- Are two values one? A test that the kernel can do. -/
import Derived.Test.YtbjelopcelompaaGreatDoorGu
namespace Go.Proofs.YtbjelopcelompaaGreatDoor.Gst
open Go Go.RowKit
set_option linter.unusedSimpArgs false
set_option linter.unusedVariables false

/-! ### Are two values one? -/
def eqVs (f : Value → Value → Bool) : List Value → List Value → Bool
  | [], [] => true
  | x :: xs, y :: ys => f x y && eqVs f xs ys
  | _, _ => false
def eqV : Nat → Value → Value → Bool
  | _, .bool a, .bool b => a == b
  | _, .int k a, .int k' b => decide (k = k') && decide (a = b)
  | _, .string a, .string b => decide (a = b)
  | _, .pointer a, .pointer b => decide (a = b)
  | _, .slice a n e, .slice a' n' e' => decide (a = a') && decide (n = n') && decide (e = e')
  | _, .map a, .map b => decide (a = b)
  | _, .nilFunc, .nilFunc => true
  | _, .nilIface, .nilIface => true
  | n + 1, .agg xs, .agg ys => eqVs (eqV n) xs.toList ys.toList
  | n + 1, .tuple xs, .tuple ys => eqVs (eqV n) xs.toList ys.toList
  | n + 1, .func f xs zs, .func f' ys ws => decide (f = f') && eqVs (eqV n) xs.toList ys.toList && eqVs (eqV n) zs.toList ws.toList
  | _, _, _ => false
theorem eqVs_sound {f : Value → Value → Bool} (hf : ∀ x y, f x y = true → x = y) : ∀ xs ys, eqVs f xs ys = true → xs = ys := by
  intro xs
  induction xs with
  | nil => intro ys h; cases ys with | nil => rfl | cons y ys => simp [eqVs] at h
  | cons x xs ih =>
    intro ys h
    cases ys with
    | nil => simp [eqVs] at h
    | cons y ys =>
      simp only [eqVs, Bool.and_eq_true] at h
      rw [hf _ _ h.1, ih _ h.2]
theorem eqV_sound : ∀ (n : Nat) (x y : Value), eqV n x y = true → x = y := by
  intro n
  induction n with
  | zero =>
    intro x y h
    cases x <;> cases y <;> simp_all [eqV]
  | succ n ih =>
    have hl := eqVs_sound ih
    intro x y h
    cases x <;> cases y <;> simp_all [eqV]
    · exact ⟨Array.toList_inj.1 (hl _ _ h.1.2), Array.toList_inj.1 (hl _ _ h.2)⟩
    · exact Array.toList_inj.1 (hl _ _ h)
    · exact Array.toList_inj.1 (hl _ _ h)
def eqO : Option Value → Option Value → Bool
  | none, none => true
  | some x, some y => eqV 4 x y
  | _, _ => false
theorem eqO_sound {x y : Option Value} (h : eqO x y = true) : x = y := by
  cases x <;> cases y <;> simp_all [eqO]
  exact eqV_sound _ _ _ h

end Go.Proofs.YtbjelopcelompaaGreatDoor.Gst
