/- Addresses moved: what an operation does to moved values is what it did, moved. -/
import Derived.Test.YtbjelopcelompaaGreatDoorVa
namespace Go.Proofs.YtbjelopcelompaaGreatDoor.Gst
open Go Go.RowKit
set_option linter.unusedSimpArgs false
set_option linter.unusedVariables false

section
variable (g d : Nat)
/-- The blocks from g on stand d further on. -/
def shB (b : Nat) : Nat := if b < g then b else b + d
def shA (a : Addr) : Addr := { a with block := shB g d a.block }
def shV : Value → Value
  | .pointer a => .pointer (a.map (shA g d))
  | .slice a n e => .slice (a.map (shA g d)) n e
  | .map r => .map (r.map (shB g d))
  | .func fn f c => .func fn (f.map shV) (c.map shV)
  | .iface t v => .iface t (shV v)
  | .agg cs => .agg (cs.map shV)
  | .tuple cs => .tuple (cs.map shV)
  | v => v
end
abbrev shL (g d : Nat) (l : List Value) : List Value := l.map (shV g d)
section
variable {g d : Nat}
theorem shB_inj {a b : Nat} (h : shB g d a = shB g d b) : a = b := by unfold shB at h; split at h <;> split at h <;> omega
@[simp] theorem sh_bool (b : Bool) : (shV g d) (.bool b) = .bool b := by rw [shV] <;> simp
@[simp] theorem sh_int (k : IntKind) (n : Int) : (shV g d) (.int k n) = .int k n := by rw [shV] <;> simp
@[simp] theorem sh_float (k : FloatKind) (n : Nat) : (shV g d) (.float k n) = .float k n := by rw [shV] <;> simp
@[simp] theorem sh_complex (k : FloatKind) (n m : Nat) : (shV g d) (.complex k n m) = .complex k n m := by rw [shV] <;> simp
@[simp] theorem sh_string (b : ByteArray) : (shV g d) (.string b) = .string b := by rw [shV] <;> simp
@[simp] theorem sh_chan (r : Option Nat) : (shV g d) (.chan r) = .chan r := by rw [shV] <;> simp
@[simp] theorem sh_nilFunc : (shV g d) .nilFunc = .nilFunc := by rw [shV] <;> simp
@[simp] theorem sh_nilIface : (shV g d) .nilIface = .nilIface := by rw [shV] <;> simp
@[simp] theorem sh_pointer (a : Option Addr) : (shV g d) (.pointer a) = .pointer (a.map (shA g d)) := by rw [shV]
@[simp] theorem sh_slice (a : Option Addr) (n e : Nat) : (shV g d) (.slice a n e) = .slice (a.map (shA g d)) n e := by rw [shV]
@[simp] theorem sh_map (r : Option Nat) : (shV g d) (.map r) = .map (r.map (shB g d)) := by rw [shV]
@[simp] theorem sh_iface (t : TypeId) (v : Value) : (shV g d) (.iface t v) = .iface t ((shV g d) v) := by rw [shV]
@[simp] theorem sh_func (fn : Fn) (f c : Array Value) : (shV g d) (.func fn f c) = .func fn (f.map (shV g d)) (c.map (shV g d)) := by rw [shV]
@[simp] theorem sh_agg (cs : Array Value) : (shV g d) (.agg cs) = .agg (cs.map (shV g d)) := by rw [shV]
@[simp] theorem sh_tuple (cs : Array Value) : (shV g d) (.tuple cs) = .tuple (cs.map (shV g d)) := by rw [shV]
@[simp] theorem sh_undef : (shV g d) undef = undef := by simp [undef]
theorem sh_lit {v : Value} (h : litV v = true) : (shV g d) v = v := by
  unfold litV at h
  split at h <;> first | (simp; done) | cases h
theorem sh_lits {l : List Value} (h : l.all litV = true) : shL g d l = l := by
  induction l with
  | nil => rfl
  | cons x l ih => simp only [List.all_cons, Bool.and_eq_true] at h; simp only [shL, List.map_cons, sh_lit h.1]; rw [show List.map (shV g d) l = l from ih h.2]
theorem sh_const {v : Value} (h : constV v = true) : (shV g d) v = v := by
  unfold constV at h
  split at h
  · rename_i cs
    rw [sh_agg]; congr 1; exact Array.toList_inj.1 (by rw [Array.toList_map]; exact sh_lits h)
  · rename_i cs
    rw [sh_tuple]; congr 1; exact Array.toList_inj.1 (by rw [Array.toList_map]; exact sh_lits h)
  · exact sh_lit h
theorem sh_cells (v : Value) : ((shV g d) v).cells = v.cells.map (shV g d) := by
  cases v <;> simp [Value.cells]
theorem sh_cellsL (v : Value) : ((shV g d) v).cells.toList = shL g d v.cells.toList := by rw [sh_cells, Array.toList_map]
theorem sh_one (v : Value) : Value.oneCell' ((shV g d) v) = Value.oneCell' v := by
  cases v <;> simp [Value.oneCell']
theorem sh_ones (l : List Value) : (shL g d l).all Value.oneCell' = l.all Value.oneCell' := by
  simp only [shL, List.all_map]; congr 1; funext v; exact sh_one v

theorem sh_pAt (v : Value) : pAt ((shV g d) v) = (pAt v).map fun a => (shB g d a.1, a.2) := by
  cases v with
  | pointer a =>
    cases a with
    | none => simp [pAt]
    | some a =>
      obtain ⟨b, o, sp⟩ := a
      cases sp <;> simp [pAt, shA]
  | _ => simp [pAt]
theorem sh_pPick (c a b : Value) : pPick ((shV g d) c) ((shV g d) a) ((shV g d) b) = (pPick c a b).map (shV g d) := by
  cases c with
  | bool t => cases t <;> simp [pPick]
  | _ => simp [pPick]
theorem sh_pNil (v : Value) : pNil ((shV g d) v) = (pNil v).map (shV g d) := by
  cases v with
  | pointer a => cases a <;> simp [pNil]
  | func fn f c => cases fn <;> simp [pNil]
  | _ => simp [pNil]
theorem sh_pFld (off : Nat) (v : Value) : pFld off ((shV g d) v) = (pFld off v).map (shV g d) := by
  unfold pFld
  rw [sh_pAt]
  cases pAt v <;> simp [shA]
theorem sh_extract (cs : Array Value) (i j : Nat) : (cs.map (shV g d)).extract i j = (cs.extract i j).map (shV g d) := by
  apply Array.ext <;> simp
theorem sh_get (cs : Array Value) (i : Nat) : (cs.map (shV g d))[i]? = (cs[i]?).map (shV g d) := by simp
theorem sh_pPart (n : Option Nat) (off : Nat) (v : Value) : pPart n off ((shV g d) v) = (pPart n off v).map (shV g d) := by
  cases v with
  | agg cs => cases n <;> simp [pPart]
  | _ => simp [pPart]
theorem sh_pIdx (e : Nat) (v i : Value) : pIdx e ((shV g d) v) ((shV g d) i) = (pIdx e v i).map (shV g d) := by
  cases v with
  | slice a n k =>
    cases a with
    | none => simp [pIdx]
    | some a =>
      obtain ⟨b, o, sp⟩ := a
      cases sp with
      | none =>
        cases i with
        | int k i => simp only [sh_slice, sh_int, Option.map_some, shA, pIdx]; split <;> simp [shA]
        | _ => simp [pIdx, shA]
      | some sp => simp [pIdx, shA]
  | _ => simp [pIdx]
theorem sh_pIdxA (len e : Nat) (v i : Value) : pIdxA len e ((shV g d) v) ((shV g d) i) = (pIdxA len e v i).map (shV g d) := by
  cases v with
  | pointer a =>
    cases a with
    | none => simp [pIdxA]
    | some a =>
      obtain ⟨b, o, sp⟩ := a
      cases sp with
      | none =>
        cases i with
        | int k i => simp only [sh_pointer, sh_int, Option.map_some, shA, pIdxA]; split <;> simp [shA]
        | _ => simp [pIdxA, shA]
      | some sp => simp [pIdxA, shA]
  | _ => simp [pIdxA]
theorem sh_pIndexV (len : Nat) (n : Option Nat) (e : Nat) (v i : Value) : pIndexV len n e ((shV g d) v) ((shV g d) i) = (pIndexV len n e v i).map (shV g d) := by
  cases v with
  | agg cs =>
    cases i with
    | int k i =>
      simp only [sh_agg, sh_int, pIndexV]
      split
      · cases n <;> simp
      · rfl
    | _ => simp [pIndexV]
  | _ => simp [pIndexV]
theorem sh_pIndexS (v i : Value) : pIndexS ((shV g d) v) ((shV g d) i) = (pIndexS v i).map (shV g d) := by
  cases v with
  | string b =>
    cases i with
    | int k i =>
      simp only [sh_string, sh_int, pIndexS]
      split
      · rw [Option.map_map]; congr 1; funext x; simp
      · rfl
    | _ => simp [pIndexS]
  | _ => simp [pIndexS]
theorem sh_pLen (v : Value) : pLen ((shV g d) v) = (pLen v).map (shV g d) := by cases v <;> simp [pLen]
theorem sh_pMax (l : List Value) : pMax (shL g d l) = (pMax l).map (shV g d) := by
  match l with
  | [] => rfl
  | [x] => simp [shL, pMax]
  | [x, y] => cases x <;> cases y <;> simp [shL, pMax]
  | x :: y :: z :: l => simp [shL, pMax]
theorem sh_pMin (l : List Value) : pMin (shL g d l) = (pMin l).map (shV g d) := by
  match l with
  | [] => rfl
  | [x] => simp [shL, pMin]
  | [x, y] => cases x <;> cases y <;> simp [shL, pMin]
  | x :: y :: z :: l => simp [shL, pMin]
theorem sh_eqCells : ∀ xs ys : List Value, eqCells (shL g d xs) (shL g d ys) = eqCells xs ys := by
  intro xs
  induction xs with
  | nil => intro ys; cases ys <;> simp [shL, eqCells]
  | cons x xs ih =>
    intro ys
    cases ys with
    | nil => cases x <;> simp [shL, eqCells]
    | cons y ys =>
      have := ih ys
      simp only [shL] at this
      cases x <;> cases y <;> simp [shL, eqCells, this]
theorem sh_pEq (cl : TCls) (x y : Value) : pEq cl ((shV g d) x) ((shV g d) y) = pEq cl x y := by
  cases cl with
  | flat n =>
    cases x with
    | agg a =>
      cases y with
      | agg b =>
        simp only [sh_agg, pEq, Array.size_map, Array.toList_map]
        rw [show eqCells (List.map (shV g d) a.toList) (List.map (shV g d) b.toList) = eqCells a.toList b.toList from sh_eqCells _ _]
      | _ => simp [pEq]
    | _ => cases y <;> simp [pEq]
  | bool => cases x <;> cases y <;> simp [pEq]
  | ptr => cases x <;> cases y <;> simp [pEq] <;> (rename_i a b; cases a <;> cases b <;> simp [pEq])
  | slice => cases x <;> cases y <;> simp [pEq] <;> (rename_i a _ _ b _ _; cases a <;> cases b <;> simp [pEq])
  | map => cases x <;> cases y <;> simp [pEq] <;> (rename_i a b; cases a <;> cases b <;> simp [pEq])
  | func => cases x <;> cases y <;> simp [pEq]
  | other => cases x <;> cases y <;> simp [pEq]
theorem pInt_sh {op : BinOp} {k : IntKind} {a b : Int} : (pInt op k a b).map (shV g d) = pInt op k a b := by
  cases op <;> simp [pInt] <;> (split <;> simp)
theorem pShift_sh {op : BinOp} {k : IntKind} {a b : Int} : (pShift op k a b).map (shV g d) = pShift op k a b := by
  unfold pShift
  split
  · rfl
  · cases op <;> simp
theorem pStr_sh {op : BinOp} {a b : ByteArray} : (pStr op a b).map (shV g d) = pStr op a b := by
  cases op <;> simp [pStr]
theorem sh_pEqOp (cl : TCls) (op : BinOp) (x y : Value) : pEqOp cl op ((shV g d) x) ((shV g d) y) = (pEqOp cl op x y).map (shV g d) := by
  cases op <;> simp only [pEqOp, sh_pEq, Option.map_map, Option.map_none] <;> (congr 1; funext b; simp)
theorem sh_pBin (cl : TCls) (op : BinOp) (x y : Value) : pBin cl op ((shV g d) x) ((shV g d) y) = (pBin cl op x y).map (shV g d) := by
  have key := sh_pEqOp (g := g) (d := d) cl op x y
  cases x with
  | int k a =>
    cases y with
    | int k' b => cases op <;> simp only [sh_int, pBin, pShift_sh] <;> (split <;> simp [pInt_sh])
    | _ => simpa [pBin] using key
  | string a =>
    cases y with
    | string b => simp [pBin, pStr_sh]
    | _ => simpa [pBin] using key
  | _ => simpa [pBin] using key
theorem sh_pUn (op : UnOp) (x : Value) : pUn op ((shV g d) x) = (pUn op x).map (shV g d) := by cases op <;> cases x <;> simp [pUn]
theorem sh_pConv (k : Option IntKind) (x : Value) : pConv k ((shV g d) x) = (pConv k x).map (shV g d) := by cases k <;> cases x <;> simp [pConv]
theorem sh_pExtract (v : Value) (i : Nat) : pExtract ((shV g d) v) i = (pExtract v i).map (shV g d) := by cases v <;> simp [pExtract]
theorem sh_pInt? (v : Value) : pInt? ((shV g d) v) = pInt? v := by cases v <;> simp [pInt?]
end
end Go.Proofs.YtbjelopcelompaaGreatDoor.Gst
