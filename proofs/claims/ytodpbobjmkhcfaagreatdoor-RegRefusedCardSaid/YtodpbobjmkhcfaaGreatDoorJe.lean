/- Guards on what is not read. -/
import Derived.Test.YtodpbobjmkhcfaaGreatDoorJd
namespace Go.Proofs.YtodpbobjmkhcfaaGreatDoor.Gst
open Go Go.RowKit

theorem gV_u {b : Bool} {v : Value} : gV undef b v = some undef := rfl
theorem gB_u {b : Bool} {e : Option Value} : gB undef b e = some undef := rfl
theorem gad_u {R : Type} (b : Bool) (k : Value → Option R) (hk : ∀ x, k x = k undef) : ∀ (p : List Stp) (x : Value), gad undef b p x k = k undef := by
  intro p
  induction p with
  | nil => intro x; exact hk x
  | cons s p ih => intro x; cases s <;> exact ih undef
theorem gld_u {R : Type} {b : Bool} {p : List Stp} {x : Value} {H : AH} (k : Value → Option R) : gld undef b p x H k = k undef := by
  unfold gld
  rw [gad_u b _ (fun x => rfl)]
  rfl
theorem w_gld_u {b : Bool} {p : List Stp} {x : Value} {H : AH} {k : Value → OV} {Q : Value → AH → Prop} (h : wp (k undef) Q) : wp (gld undef b p x H k) Q := by rw [gld_u]; exact h
end Go.Proofs.YtodpbobjmkhcfaaGreatDoor.Gst
