/- What the printed functions are made of. -/
import Derived.Test.YtofbcaheogfkeaaDoorGv
import Derived.Test.YtofbcaheogfkeaaDoorRows
namespace Go.Proofs.YtofbcaheogfkeaaDoor.Gst
open Go Go.RowKit

def yv : Value → Option Bool
  | .bool b => some b
  | _ => none
def newK {R : Type} (cs : List Value) (H : AH) (k : Value → AH → Option R) : Option R := k (.pointer (some ⟨H.size, 0, none⟩)) (H.push (.cells false cs))
def rowK {R : Type} (len e : Nat) (cs : List Value) (H : AH) (k : Value → AH → Option R) : Option R := k (.slice (some ⟨H.size, 0, none⟩) len e) (H.push (.cells false cs))
def mapK {R : Type} (H : AH) (k : Value → AH → Option R) : Option R := k (.map (some H.size)) (H.push (.map [] 0))
def lenK {R : Type} (x : Value) (k : Value → Option R) : Option R :=
  match x with
  | .slice _ n _ => k (.int .i64 n)
  | _ => none
def lenSK {R : Type} (x : Value) (k : Value → Option R) : Option R :=
  match x with
  | .string s => k (.int .i64 s.size)
  | _ => none
def condK {R : Type} (c : Value) (x y : Option R) : Option R :=
  match c with
  | .bool true => x
  | .bool false => y
  | _ => none
/-- What is done where a guard says so. -/
def onK {α : Type} (y : Option Bool) (want : Bool) (a b : Option α) : Option α :=
  match y == some want with
  | true => a
  | false => b
theorem onK_b {α : Type} (c want : Bool) (a b : Option α) : onK (yv (.bool c)) want a b = if c = want then a else b := by cases c <;> cases want <;> rfl
theorem onK_tt {α : Type} (a b : Option α) : onK (yv (.bool true)) true a b = a := rfl
theorem onK_ft {α : Type} (a b : Option α) : onK (yv (.bool false)) true a b = b := rfl
theorem onK_tf {α : Type} (a b : Option α) : onK (yv (.bool true)) false a b = b := rfl
theorem onK_ff {α : Type} (a b : Option α) : onK (yv (.bool false)) false a b = a := rfl
theorem pick_t (a b : Value) : pPick (.bool true) a b = some a := rfl
theorem pick_f (a b : Value) : pPick (.bool false) a b = some b := rfl
theorem cond_t {R : Type} (a b : Option R) : condK (.bool true) a b = a := rfl
theorem cond_f {R : Type} (a b : Option R) : condK (.bool false) a b = b := rfl
def opsOf : Code → Array Oper
  | .region _ ops _ => ops
  | _ => #[]
/-- The parts laid where they stand. -/
def offs (e : Nat) (i : Nat) : Option (Nat × Nat) := some (i * e, e)
end Go.Proofs.YtofbcaheogfkeaaDoor.Gst
