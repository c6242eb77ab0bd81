/- What the printed functions are made of. -/
import Derived.Test.YtbjelopcelompaaGreatDoorGv
import Derived.Test.YtbjelopcelompaaGreatDoorRows
namespace Go.Proofs.YtbjelopcelompaaGreatDoor.Gst
open Go Go.RowKit

def yv : Value → Option Bool
  | .bool b => some b
  | _ => none
def newK {R : Type} (cs : List Value) (H : AH) (k : Value → AH → Option R) : Option R := k (.pointer (some ⟨H.size, 0, none⟩)) (H.push (.cells false cs))
def rowK {R : Type} (len e : Nat) (cs : List Value) (H : AH) (k : Value → AH → Option R) : Option R := k (.slice (some ⟨H.size, 0, none⟩) len e) (H.push (.cells false cs))
def mapK {R : Type} (H : AH) (k : Value → AH → Option R) : Option R := k (.map (some H.size)) (H.push (.map [] 0))
def lenK {R : Type} (x : Value) (k : Value → Option R) : Option R :=
  match x with
  | .slice _ n _ => k (.int .i64 n)
  | _ => none
def lenSK {R : Type} (x : Value) (k : Value → Option R) : Option R :=
  match x with
  | .string s => k (.int .i64 s.size)
  | _ => none
/-- A length, held against itself. -/
def lenR (x : Value) : Option Value :=
  match x with
  | .slice _ _ _ => pLen x
  | _ => none
def lenRS (x : Value) : Option Value :=
  match x with
  | .string _ => pLen x
  | _ => none
def condK {R : Type} (c : Value) (x y : Option R) : Option R :=
  match c with
  | .bool true => x
  | .bool false => y
  | _ => none
/-- What is done where a guard says so. -/
def onK {α : Type} (y : Option Bool) (want : Bool) (a b : Option α) : Option α :=
  match y == some want with
  | true => a
  | false => b
theorem onK_b {α : Type} (c want : Bool) (a b : Option α) : onK (yv (.bool c)) want a b = if c = want then a else b := by cases c <;> cases want <;> rfl
theorem onK_tt {α : Type} (a b : Option α) : onK (yv (.bool true)) true a b = a := rfl
theorem onK_ft {α : Type} (a b : Option α) : onK (yv (.bool false)) true a b = b := rfl
theorem onK_tf {α : Type} (a b : Option α) : onK (yv (.bool true)) false a b = b := rfl
theorem onK_ff {α : Type} (a b : Option α) : onK (yv (.bool false)) false a b = a := rfl
theorem pick_t (a b : Value) : pPick (.bool true) a b = some a := rfl
theorem pick_f (a b : Value) : pPick (.bool false) a b = some b := rfl
theorem cond_t {R : Type} (a b : Option R) : condK (.bool true) a b = a := rfl
theorem cond_f {R : Type} (a b : Option R) : condK (.bool false) a b = b := rfl
abbrev vi (n : Int) : Value := .int .i64 n
abbrev vw (n : Int) : Value := .int .u64 n
abbrev vu (n : Nat) : Value := .int .u64 (n : Int)
abbrev vb (b : Bool) : Value := .bool b
/-- Ways to a place: not nil; a field; an element of a slice, of an array. -/
inductive Stp where
  | n
  | f (k : Nat)
  | i (e : Nat) (v : Value)
  | a (len e : Nat) (v : Value)
def ad {R : Type} : List Stp → Value → (Value → Option R) → Option R
  | [], a, k => k a
  | .n :: p, a, k => (pNil a).bind fun a => ad p a k
  | .f o :: p, a, k => (pFld o a).bind fun a => ad p a k
  | .i e v :: p, a, k => (pIdx e a v).bind fun a => ad p a k
  | .a len e v :: p, a, k => (pIdxA len e a v).bind fun a => ad p a k
def ld {R : Type} (p : List Stp) (x : Value) (H : AH) (k : Value → Option R) : Option R := ad p x fun a => (pLd1 a H).bind k
def ldN {R : Type} (n : Nat) (p : List Stp) (x : Value) (H : AH) (k : Value → Option R) : Option R := ad p x fun a => (pLdN n a H).bind k
def st {R : Type} (n : Nat) (p : List Stp) (x v : Value) (H : AH) (k : AH → Option R) : Option R := ad p x fun a => (pSt n a v H).bind k
/-- A look, and something that is done, where a guard says so. -/
def gB (c : Value) (want : Bool) (e : Option Value) : Option Value := onK (yv c) want (e.bind some) (some undef)
def gV (c : Value) (want : Bool) (e : Value) : Option Value := onK (yv c) want (some e) (some undef)
def gE (c : Value) (want : Bool) (H : AH) (e : Option (Value × AH)) : Option (Value × AH) := onK (yv c) want e (some (undef, H))
def gad {R : Type} (c : Value) (want : Bool) : List Stp → Value → (Value → Option R) → Option R
  | [], a, k => k a
  | .n :: p, a, k => (gB c want (pNil a)).bind fun a => gad c want p a k
  | .f o :: p, a, k => (gB c want (pFld o a)).bind fun a => gad c want p a k
  | .i e v :: p, a, k => (gB c want (pIdx e a v)).bind fun a => gad c want p a k
  | .a len e v :: p, a, k => (gB c want (pIdxA len e a v)).bind fun a => gad c want p a k
def gld {R : Type} (c : Value) (want : Bool) (p : List Stp) (x : Value) (H : AH) (k : Value → Option R) : Option R := gad c want p x fun a => (gB c want (pLd1 a H)).bind k
def gldN {R : Type} (c : Value) (want : Bool) (n : Nat) (p : List Stp) (x : Value) (H : AH) (k : Value → Option R) : Option R := gad c want p x fun a => (gB c want (pLdN n a H)).bind k
/-- The parts of a thing: where they stand. -/
def mkS {R : Type} (ps : List (Nat × Nat)) (zero : List Value) (xs : List (Nat × Value)) (k : Value → Option R) : Option R := (pFill (fun i => ps[i]?) zero xs).bind fun cs => k (.agg cs.toArray)
/-- The parts laid where they stand. -/
def offs (e : Nat) (i : Nat) : Option (Nat × Nat) := some (i * e, e)
def mkA {R : Type} (e : Nat) (zero : List Value) (xs : List (Nat × Value)) (k : Value → Option R) : Option R := (pFill (offs e) zero xs).bind fun cs => k (.agg cs.toArray)
/-- A new row. -/
def mkR {R : Type} (len e : Nat) (zero : List Value) (xs : List (Nat × Value)) (H : AH) (k : Value → AH → Option R) : Option R := (pFill (offs e) (List.replicate len zero).flatten xs).bind fun cs => rowK len e cs H k
def opsOf : Code → Array Oper
  | .region _ ops _ => ops
  | _ => #[]
end Go.Proofs.YtbjelopcelompaaGreatDoor.Gst
