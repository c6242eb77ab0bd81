/- A closed call, done by the kernel on a tree, done in any heap. -/
import Derived.Test.YthagelbepgcolaaGreatDoorMc
import Derived.Recover
namespace Go.Proofs.YthagelbepgcolaaGreatDoor.Gst
open Go Go.RowKit
set_option linter.unusedSimpArgs false
set_option linter.unusedVariables false

/-! ### Are two values one? -/
def eqVs (f : Value → Value → Bool) : List Value → List Value → Bool
  | [], [] => true
  | x :: xs, y :: ys => f x y && eqVs f xs ys
  | _, _ => false
def eqV : Nat → Value → Value → Bool
  | _, .bool a, .bool b => a == b
  | _, .int k a, .int k' b => decide (k = k') && decide (a = b)
  | _, .string a, .string b => decide (a = b)
  | _, .pointer a, .pointer b => decide (a = b)
  | _, .slice a n e, .slice a' n' e' => decide (a = a') && decide (n = n') && decide (e = e')
  | _, .map a, .map b => decide (a = b)
  | _, .nilFunc, .nilFunc => true
  | _, .nilIface, .nilIface => true
  | n + 1, .agg xs, .agg ys => eqVs (eqV n) xs.toList ys.toList
  | n + 1, .tuple xs, .tuple ys => eqVs (eqV n) xs.toList ys.toList
  | n + 1, .func f xs zs, .func f' ys ws => decide (f = f') && eqVs (eqV n) xs.toList ys.toList && eqVs (eqV n) zs.toList ws.toList
  | _, _, _ => false
theorem eqVs_sound {f : Value → Value → Bool} (hf : ∀ x y, f x y = true → x = y) : ∀ xs ys, eqVs f xs ys = true → xs = ys := by
  intro xs
  induction xs with
  | nil => intro ys h; cases ys with | nil => rfl | cons y ys => simp [eqVs] at h
  | cons x xs ih =>
    intro ys h
    cases ys with
    | nil => simp [eqVs] at h
    | cons y ys =>
      simp only [eqVs, Bool.and_eq_true] at h
      rw [hf _ _ h.1, ih _ h.2]
theorem eqV_sound : ∀ (n : Nat) (x y : Value), eqV n x y = true → x = y := by
  intro n
  induction n with
  | zero =>
    intro x y h
    cases x <;> cases y <;> simp_all [eqV]
  | succ n ih =>
    have hl := eqVs_sound ih
    intro x y h
    cases x <;> cases y <;> simp_all [eqV]
    · exact ⟨Array.toList_inj.1 (hl _ _ h.1.2), Array.toList_inj.1 (hl _ _ h.2)⟩
    · exact Array.toList_inj.1 (hl _ _ h)
    · exact Array.toList_inj.1 (hl _ _ h)
def eqO : Option Value → Option Value → Bool
  | none, none => true
  | some x, some y => eqV 4 x y
  | _, _ => false
theorem eqO_sound {x y : Option Value} (h : eqO x y = true) : x = y := by
  cases x <;> cases y <;> simp_all [eqO]
  exact eqV_sound _ _ _ h

end Go.Proofs.YthagelbepgcolaaGreatDoor.Gst
/- Addresses moved: what an operation does to moved values is what it did, moved. -/
namespace Go.Proofs.YthagelbepgcolaaGreatDoor.Gst
open Go Go.RowKit
set_option linter.unusedSimpArgs false
set_option linter.unusedVariables false

section
variable (g d : Nat)
/-- The blocks from g on stand d further on. -/
def shB (b : Nat) : Nat := if b < g then b else b + d
def shA (a : Addr) : Addr := { a with block := shB g d a.block }
def shV : Value → Value
  | .pointer a => .pointer (a.map (shA g d))
  | .slice a n e => .slice (a.map (shA g d)) n e
  | .map r => .map (r.map (shB g d))
  | .func fn f c => .func fn (f.map shV) (c.map shV)
  | .iface t v => .iface t (shV v)
  | .agg cs => .agg (cs.map shV)
  | .tuple cs => .tuple (cs.map shV)
  | v => v
end
abbrev shL (g d : Nat) (l : List Value) : List Value := l.map (shV g d)
section
variable {g d : Nat}
theorem shB_inj {a b : Nat} (h : shB g d a = shB g d b) : a = b := by unfold shB at h; split at h <;> split at h <;> omega
@[simp] theorem sh_bool (b : Bool) : (shV g d) (.bool b) = .bool b := by rw [shV] <;> simp
@[simp] theorem sh_int (k : IntKind) (n : Int) : (shV g d) (.int k n) = .int k n := by rw [shV] <;> simp
@[simp] theorem sh_float (k : FloatKind) (n : Nat) : (shV g d) (.float k n) = .float k n := by rw [shV] <;> simp
@[simp] theorem sh_complex (k : FloatKind) (n m : Nat) : (shV g d) (.complex k n m) = .complex k n m := by rw [shV] <;> simp
@[simp] theorem sh_string (b : ByteArray) : (shV g d) (.string b) = .string b := by rw [shV] <;> simp
@[simp] theorem sh_chan (r : Option Nat) : (shV g d) (.chan r) = .chan r := by rw [shV] <;> simp
@[simp] theorem sh_nilFunc : (shV g d) .nilFunc = .nilFunc := by rw [shV] <;> simp
@[simp] theorem sh_nilIface : (shV g d) .nilIface = .nilIface := by rw [shV] <;> simp
@[simp] theorem sh_pointer (a : Option Addr) : (shV g d) (.pointer a) = .pointer (a.map (shA g d)) := by rw [shV]
@[simp] theorem sh_slice (a : Option Addr) (n e : Nat) : (shV g d) (.slice a n e) = .slice (a.map (shA g d)) n e := by rw [shV]
@[simp] theorem sh_map (r : Option Nat) : (shV g d) (.map r) = .map (r.map (shB g d)) := by rw [shV]
@[simp] theorem sh_iface (t : TypeId) (v : Value) : (shV g d) (.iface t v) = .iface t ((shV g d) v) := by rw [shV]
@[simp] theorem sh_func (fn : Fn) (f c : Array Value) : (shV g d) (.func fn f c) = .func fn (f.map (shV g d)) (c.map (shV g d)) := by rw [shV]
@[simp] theorem sh_agg (cs : Array Value) : (shV g d) (.agg cs) = .agg (cs.map (shV g d)) := by rw [shV]
@[simp] theorem sh_tuple (cs : Array Value) : (shV g d) (.tuple cs) = .tuple (cs.map (shV g d)) := by rw [shV]
@[simp] theorem sh_undef : (shV g d) undef = undef := by simp [undef]
theorem sh_lit {v : Value} (h : litV v = true) : (shV g d) v = v := by
  unfold litV at h
  split at h <;> first | (simp; done) | cases h
theorem sh_lits {l : List Value} (h : l.all litV = true) : shL g d l = l := by
  induction l with
  | nil => rfl
  | cons x l ih => simp only [List.all_cons, Bool.and_eq_true] at h; simp only [shL, List.map_cons, sh_lit h.1]; rw [show List.map (shV g d) l = l from ih h.2]
theorem sh_const {v : Value} (h : constV v = true) : (shV g d) v = v := by
  unfold constV at h
  split at h
  · rename_i cs
    rw [sh_agg]; congr 1; exact Array.toList_inj.1 (by rw [Array.toList_map]; exact sh_lits h)
  · rename_i cs
    rw [sh_tuple]; congr 1; exact Array.toList_inj.1 (by rw [Array.toList_map]; exact sh_lits h)
  · exact sh_lit h
theorem sh_cells (v : Value) : ((shV g d) v).cells = v.cells.map (shV g d) := by
  cases v <;> simp [Value.cells]
theorem sh_cellsL (v : Value) : ((shV g d) v).cells.toList = shL g d v.cells.toList := by rw [sh_cells, Array.toList_map]
theorem sh_one (v : Value) : Value.oneCell' ((shV g d) v) = Value.oneCell' v := by
  cases v <;> simp [Value.oneCell']
theorem sh_ones (l : List Value) : (shL g d l).all Value.oneCell' = l.all Value.oneCell' := by
  simp only [shL, List.all_map]; congr 1; funext v; exact sh_one v

theorem sh_pAt (v : Value) : pAt ((shV g d) v) = (pAt v).map fun a => (shB g d a.1, a.2) := by
  cases v with
  | pointer a =>
    cases a with
    | none => simp [pAt]
    | some a =>
      obtain ⟨b, o, sp⟩ := a
      cases sp <;> simp [pAt, shA]
  | _ => simp [pAt]
theorem sh_pPick (c a b : Value) : pPick ((shV g d) c) ((shV g d) a) ((shV g d) b) = (pPick c a b).map (shV g d) := by
  cases c with
  | bool t => cases t <;> simp [pPick]
  | _ => simp [pPick]
theorem sh_pNil (v : Value) : pNil ((shV g d) v) = (pNil v).map (shV g d) := by
  cases v with
  | pointer a => cases a <;> simp [pNil]
  | func fn f c => cases fn <;> simp [pNil]
  | _ => simp [pNil]
theorem sh_pFld (off : Nat) (v : Value) : pFld off ((shV g d) v) = (pFld off v).map (shV g d) := by
  unfold pFld
  rw [sh_pAt]
  cases pAt v <;> simp [shA]
theorem sh_extract (cs : Array Value) (i j : Nat) : (cs.map (shV g d)).extract i j = (cs.extract i j).map (shV g d) := by
  apply Array.ext <;> simp
theorem sh_get (cs : Array Value) (i : Nat) : (cs.map (shV g d))[i]? = (cs[i]?).map (shV g d) := by simp
theorem sh_pPart (n : Option Nat) (off : Nat) (v : Value) : pPart n off ((shV g d) v) = (pPart n off v).map (shV g d) := by
  cases v with
  | agg cs => cases n <;> simp [pPart]
  | _ => simp [pPart]
theorem sh_pIdx (e : Nat) (v i : Value) : pIdx e ((shV g d) v) ((shV g d) i) = (pIdx e v i).map (shV g d) := by
  cases v with
  | slice a n k =>
    cases a with
    | none => simp [pIdx]
    | some a =>
      obtain ⟨b, o, sp⟩ := a
      cases sp with
      | none =>
        cases i with
        | int k i => simp only [sh_slice, sh_int, Option.map_some, shA, pIdx]; split <;> simp [shA]
        | _ => simp [pIdx, shA]
      | some sp => simp [pIdx, shA]
  | _ => simp [pIdx]
theorem sh_pIdxA (len e : Nat) (v i : Value) : pIdxA len e ((shV g d) v) ((shV g d) i) = (pIdxA len e v i).map (shV g d) := by
  cases v with
  | pointer a =>
    cases a with
    | none => simp [pIdxA]
    | some a =>
      obtain ⟨b, o, sp⟩ := a
      cases sp with
      | none =>
        cases i with
        | int k i => simp only [sh_pointer, sh_int, Option.map_some, shA, pIdxA]; split <;> simp [shA]
        | _ => simp [pIdxA, shA]
      | some sp => simp [pIdxA, shA]
  | _ => simp [pIdxA]
theorem sh_pIndexV (len : Nat) (n : Option Nat) (e : Nat) (v i : Value) : pIndexV len n e ((shV g d) v) ((shV g d) i) = (pIndexV len n e v i).map (shV g d) := by
  cases v with
  | agg cs =>
    cases i with
    | int k i =>
      simp only [sh_agg, sh_int, pIndexV]
      split
      · cases n <;> simp
      · rfl
    | _ => simp [pIndexV]
  | _ => simp [pIndexV]
theorem sh_pIndexS (v i : Value) : pIndexS ((shV g d) v) ((shV g d) i) = (pIndexS v i).map (shV g d) := by
  cases v with
  | string b =>
    cases i with
    | int k i =>
      simp only [sh_string, sh_int, pIndexS]
      split
      · rw [Option.map_map]; congr 1; funext x; simp
      · rfl
    | _ => simp [pIndexS]
  | _ => simp [pIndexS]
theorem sh_pLen (v : Value) : pLen ((shV g d) v) = (pLen v).map (shV g d) := by cases v <;> simp [pLen]
theorem sh_pMax (l : List Value) : pMax (shL g d l) = (pMax l).map (shV g d) := by
  match l with
  | [] => rfl
  | [x] => simp [shL, pMax]
  | [x, y] => cases x <;> cases y <;> simp [shL, pMax]
  | x :: y :: z :: l => simp [shL, pMax]
theorem sh_pMin (l : List Value) : pMin (shL g d l) = (pMin l).map (shV g d) := by
  match l with
  | [] => rfl
  | [x] => simp [shL, pMin]
  | [x, y] => cases x <;> cases y <;> simp [shL, pMin]
  | x :: y :: z :: l => simp [shL, pMin]
theorem sh_eqCells : ∀ xs ys : List Value, eqCells (shL g d xs) (shL g d ys) = eqCells xs ys := by
  intro xs
  induction xs with
  | nil => intro ys; cases ys <;> simp [shL, eqCells]
  | cons x xs ih =>
    intro ys
    cases ys with
    | nil => cases x <;> simp [shL, eqCells]
    | cons y ys =>
      have := ih ys
      simp only [shL] at this
      cases x <;> cases y <;> simp [shL, eqCells, this]
theorem sh_pEq (cl : TCls) (x y : Value) : pEq cl ((shV g d) x) ((shV g d) y) = pEq cl x y := by
  cases cl with
  | flat n =>
    cases x with
    | agg a =>
      cases y with
      | agg b =>
        simp only [sh_agg, pEq, Array.size_map, Array.toList_map]
        rw [show eqCells (List.map (shV g d) a.toList) (List.map (shV g d) b.toList) = eqCells a.toList b.toList from sh_eqCells _ _]
      | _ => simp [pEq]
    | _ => cases y <;> simp [pEq]
  | bool => cases x <;> cases y <;> simp [pEq]
  | ptr => cases x <;> cases y <;> simp [pEq] <;> (rename_i a b; cases a <;> cases b <;> simp [pEq])
  | slice => cases x <;> cases y <;> simp [pEq] <;> (rename_i a _ _ b _ _; cases a <;> cases b <;> simp [pEq])
  | map => cases x <;> cases y <;> simp [pEq] <;> (rename_i a b; cases a <;> cases b <;> simp [pEq])
  | func => cases x <;> cases y <;> simp [pEq]
  | other => cases x <;> cases y <;> simp [pEq]
theorem pInt_sh {op : BinOp} {k : IntKind} {a b : Int} : (pInt op k a b).map (shV g d) = pInt op k a b := by
  cases op <;> simp [pInt] <;> (split <;> simp)
theorem pShift_sh {op : BinOp} {k : IntKind} {a b : Int} : (pShift op k a b).map (shV g d) = pShift op k a b := by
  unfold pShift
  split
  · rfl
  · cases op <;> simp
theorem pStr_sh {op : BinOp} {a b : ByteArray} : (pStr op a b).map (shV g d) = pStr op a b := by
  cases op <;> simp [pStr]
theorem sh_pEqOp (cl : TCls) (op : BinOp) (x y : Value) : pEqOp cl op ((shV g d) x) ((shV g d) y) = (pEqOp cl op x y).map (shV g d) := by
  cases op <;> simp only [pEqOp, sh_pEq, Option.map_map, Option.map_none] <;> (congr 1; funext b; simp)
theorem sh_pBin (cl : TCls) (op : BinOp) (x y : Value) : pBin cl op ((shV g d) x) ((shV g d) y) = (pBin cl op x y).map (shV g d) := by
  have key := sh_pEqOp (g := g) (d := d) cl op x y
  cases x with
  | int k a =>
    cases y with
    | int k' b => cases op <;> simp only [sh_int, pBin, pShift_sh] <;> (split <;> simp [pInt_sh])
    | _ => simpa [pBin] using key
  | string a =>
    cases y with
    | string b => simp [pBin, pStr_sh]
    | _ => simpa [pBin] using key
  | _ => simpa [pBin] using key
theorem sh_pUn (op : UnOp) (x : Value) : pUn op ((shV g d) x) = (pUn op x).map (shV g d) := by cases op <;> cases x <;> simp [pUn]
theorem sh_pConv (k : Option IntKind) (x : Value) : pConv k ((shV g d) x) = (pConv k x).map (shV g d) := by cases k <;> cases x <;> simp [pConv]
theorem sh_pExtract (v : Value) (i : Nat) : pExtract ((shV g d) v) i = (pExtract v i).map (shV g d) := by cases v <;> simp [pExtract]
theorem sh_pInt? (v : Value) : pInt? ((shV g d) v) = pInt? v := by cases v <;> simp [pInt?]
end
end Go.Proofs.YthagelbepgcolaaGreatDoor.Gst
/- A heap as a tree, which the kernel reads fast; what the abstract heap's operations do to it. -/
namespace Go.Proofs.YthagelbepgcolaaGreatDoor.Gst
open Go Go.RowKit
set_option linter.unusedSimpArgs false
set_option linter.unusedVariables false

/-! ### Trees -/
inductive Tr (α : Type) where
  | lf
  | nd (v : Option α) (l r : Tr α)
section
variable {α : Type}
def Tr.get : Tr α → Nat → Option α
  | .lf, _ => none
  | .nd v l r, i => match i with
    | 0 => v
    | i + 1 => match Nat.beq (i % 2) 0 with
      | true => l.get (i / 2)
      | false => r.get (i / 2)
def Tr.set (x : α) : Nat → Tr α → Nat → Option (Tr α)
  | 0, _, _ => none
  | k + 1, t, i => match i with
    | 0 => match t with
      | .lf => some (.nd (some x) .lf .lf)
      | .nd _ l r => some (.nd (some x) l r)
    | i + 1 => match Nat.beq (i % 2) 0 with
      | true => match t with
        | .lf => (Tr.set x k .lf (i / 2)).map fun l' => .nd none l' .lf
        | .nd v l r => (Tr.set x k l (i / 2)).map fun l' => .nd v l' r
      | false => match t with
        | .lf => (Tr.set x k .lf (i / 2)).map fun r' => .nd none .lf r'
        | .nd v l r => (Tr.set x k r (i / 2)).map fun r' => .nd v l r'
theorem Tr.get_set {x : α} : ∀ (k : Nat) {t t' : Tr α} {i : Nat}, Tr.set x k t i = some t' → ∀ j, t'.get j = if j = i then some x else t.get j := by
  intro k
  induction k with
  | zero => intro t t' i h; cases h
  | succ k ih =>
    intro t t' i h j
    cases i with
    | zero =>
      cases t with
      | lf => simp only [Tr.set] at h; cases h; cases j with
        | zero => rfl
        | succ j => simp only [Tr.get]; split <;> simp [Tr.get]
      | nd v l r => simp only [Tr.set] at h; cases h; cases j with
        | zero => rfl
        | succ j => simp [Tr.get]
    | succ i =>
      simp only [Tr.set] at h
      have beq : ∀ a : Nat, Nat.beq a 0 = (a == 0) := fun a => by cases a <;> simp [Nat.beq]
      have lf : ∀ j, (Tr.lf : Tr α).get j = none := fun j => by cases j <;> rfl
      cases hb : Nat.beq (i % 2) 0 with
      | true =>
        have hi : i % 2 = 0 := by rw [beq] at hb; simpa using hb
        rw [hb] at h
        simp only at h
        have key : ∃ v l r l', Tr.set x k l (i / 2) = some l' ∧ t' = .nd v l' r ∧ ∀ j, t.get j = (Tr.nd v l r).get j := by
          cases t with
          | lf => obtain ⟨l', h1, e⟩ := Option.map_eq_some_iff.1 h; exact ⟨none, .lf, .lf, l', h1, e.symm, fun j => by rw [lf]; cases j with | zero => rfl | succ j => simp only [Tr.get]; split <;> rfl⟩
          | nd v l r => obtain ⟨l', h1, e⟩ := Option.map_eq_some_iff.1 h; exact ⟨v, l, r, l', h1, e.symm, fun j => rfl⟩
        obtain ⟨v, l, r, l', h1, rfl, hg⟩ := key
        rw [hg]
        cases j with
        | zero => rfl
        | succ j =>
          simp only [Tr.get]
          cases hj : Nat.beq (j % 2) 0 with
          | true =>
            have hj' : j % 2 = 0 := by rw [beq] at hj; simpa using hj
            simp only
            rw [ih h1]
            by_cases e : j / 2 = i / 2
            · rw [if_pos e, if_pos (by omega)]
            · rw [if_neg e, if_neg (by omega)]
          | false =>
            have hj' : j % 2 ≠ 0 := by rw [beq] at hj; simpa using hj
            simp only
            rw [if_neg (by omega)]
      | false =>
        have hi : i % 2 ≠ 0 := by rw [beq] at hb; simpa using hb
        rw [hb] at h
        simp only at h
        have key : ∃ v l r r', Tr.set x k r (i / 2) = some r' ∧ t' = .nd v l r' ∧ ∀ j, t.get j = (Tr.nd v l r).get j := by
          cases t with
          | lf => obtain ⟨l', h1, e⟩ := Option.map_eq_some_iff.1 h; exact ⟨none, .lf, .lf, l', h1, e.symm, fun j => by rw [lf]; cases j with | zero => rfl | succ j => simp only [Tr.get]; split <;> rfl⟩
          | nd v l r => obtain ⟨l', h1, e⟩ := Option.map_eq_some_iff.1 h; exact ⟨v, l, r, l', h1, e.symm, fun j => rfl⟩
        obtain ⟨v, l, r, l', h1, rfl, hg⟩ := key
        rw [hg]
        cases j with
        | zero => rfl
        | succ j =>
          simp only [Tr.get]
          cases hj : Nat.beq (j % 2) 0 with
          | false =>
            have hj' : j % 2 ≠ 0 := by rw [beq] at hj; simpa using hj
            simp only
            rw [ih h1]
            by_cases e : j / 2 = i / 2
            · rw [if_pos e, if_pos (by omega)]
            · rw [if_neg e, if_neg (by omega)]
          | true =>
            have hj' : j % 2 = 0 := by rw [beq] at hj; simpa using hj
            simp only
            rw [if_neg (by omega)]
end

/-! ### The heap -/
structure EH where
  n : Nat
  t : Tr AObj
def EH.get (E : EH) (b : Nat) : Option AObj := E.t.get b
def EH.set (E : EH) (b : Nat) (o : AObj) : Option EH := (Tr.set o 24 E.t b).map fun t => ⟨E.n, t⟩
def EH.push (E : EH) (o : AObj) : Option EH := (Tr.set o 24 E.t E.n).map fun t => ⟨E.n + 1, t⟩

section
variable (g d : Nat)
def shE (e : MapEntry) : MapEntry := { e with key := shV g d e.key, val := shV g d e.val }
def shO : AObj → AObj
  | .cells ro cs => .cells ro (shL g d cs)
  | .map es c => .map (es.map (shE g d)) c
  | .dead => .dead
/-- The heap, behind the first g blocks d others (which stay), then what the tree has there. -/
structure HR (F : List AObj) (E : EH) (H : AH) : Prop where
  len : F.length = d
  le : g ≤ E.n
  size : H.size = E.n + d
  get : ∀ b, H.get (shB g d b) = (E.get b).map (shO g d)
  out : ∀ b, E.n ≤ b → E.get b = none
  fr : ∀ b, g ≤ b → b < g + d → H.get b = F[b - g]?
end
section
variable {g d : Nat} {F : List AObj} {E E' : EH} {H : AH}
theorem HR.lt (h : HR g d F E H) {b : Nat} {o : AObj} (hb : E.get b = some o) : b < E.n := by
  rcases Nat.lt_or_ge b E.n with h1 | h1
  · exact h1
  · rw [h.out b h1] at hb; cases hb
theorem HR.new (h : HR g d F E H) : H.size = shB g d E.n := by
  unfold shB; rw [if_neg (by have := h.le; omega)]; exact h.size
theorem HR.shlt (h : HR g d F E H) {b : Nat} (hb : b < E.n) : shB g d b < H.size := by
  rw [h.size]; unfold shB; split <;> omega
theorem HR.set (h : HR g d F E H) {b : Nat} {o : AObj} (hb : b < E.n) (hs : E.set b o = some E') : HR g d F E' (H.set (shB g d b) (shO g d o)) := by
  obtain ⟨t, ht, rfl⟩ := Option.map_eq_some_iff.1 hs
  have hg := Tr.get_set 24 ht
  refine ⟨h.len, h.le, by rw [AH.size_set]; exact h.size, fun j => ?_, fun j hj => ?_, fun j h1 h2 => ?_⟩
  · show _ = (t.get j).map _
    rw [hg j, AH.get_set]
    by_cases e : j = b
    · subst e; rw [if_pos rfl, if_pos rfl, if_pos (h.shlt hb)]; rfl
    · rw [if_neg (fun x => e (shB_inj x)), if_neg e]; exact h.get j
  · show t.get j = none
    rw [hg j, if_neg (by have : E.n ≤ j := hj; omega)]; exact h.out j hj
  · rw [AH.get_set_ne (by unfold shB; split <;> omega)]; exact h.fr j h1 h2
theorem HR.push (h : HR g d F E H) {o : AObj} (hs : E.push o = some E') : HR g d F E' (H.push (shO g d o)) := by
  obtain ⟨t, ht, rfl⟩ := Option.map_eq_some_iff.1 hs
  have hg := Tr.get_set 24 ht
  have hle := h.le
  have hsz := h.size
  refine ⟨h.len, by show g ≤ E.n + 1; omega, by rw [AH.size_push, hsz]; show _ = E.n + 1 + d; omega, fun j => ?_, fun j hj => ?_, fun j h1 h2 => ?_⟩
  · show _ = (t.get j).map _
    rw [hg j, AH.get_push, h.new]
    by_cases e : j = E.n
    · subst e; rw [if_pos rfl, if_pos rfl]; rfl
    · rw [if_neg (fun x => e (shB_inj x)), if_neg e]; exact h.get j
  · show t.get j = none
    have : E.n + 1 ≤ j := hj
    rw [hg j, if_neg (by omega)]; exact h.out j (by omega)
  · rw [AH.get_push_old (by omega)]; exact h.fr j h1 h2
theorem EH.push_n {o : AObj} (hs : E.push o = some E') : E'.n = E.n + 1 := by
  obtain ⟨t, ht, rfl⟩ := Option.map_eq_some_iff.1 hs; rfl
end
end Go.Proofs.YthagelbepgcolaaGreatDoor.Gst
/- Operations that read and write memory: by the tree, and by the abstract heap. -/
namespace Go.Proofs.YthagelbepgcolaaGreatDoor.Gst
open Go Go.RowKit
set_option linter.unusedSimpArgs false
set_option linter.unusedVariables false

section
variable {g d : Nat}
theorem sh_splice (cs : List Value) (o : Nat) (xs : List Value) : splice (shL g d cs) o (shL g d xs) = shL g d (splice cs o xs) := by
  simp [splice, shL, List.map_take, List.map_drop]
theorem sh_pFill (places : Nat → Option (Nat × Nat)) : ∀ (parts : List (Nat × Value)) (zero : List Value), pFill places (shL g d zero) (parts.map fun p => (p.1, (shV g d) p.2)) = (pFill places zero parts).map (shL g d) := by
  intro parts
  induction parts with
  | nil => intro zero; rfl
  | cons p parts ih =>
    intro zero
    obtain ⟨i, v⟩ := p
    simp only [List.map_cons, pFill]
    cases places i with
    | none => rfl
    | some q =>
      simp only [Option.bind_some]
      rw [sh_cells, Array.size_map, Array.toList_map, show (shL g d zero).length = zero.length from List.length_map _]
      split
      · rw [show List.map (shV g d) v.cells.toList = shL g d v.cells.toList from rfl, sh_splice]; exact ih _
      · rfl
theorem sh_pSlice (e : Nat) (x : Value) (lo hi : Option Value) : pSlice e ((shV g d) x) (lo.map (shV g d)) (hi.map (shV g d)) = (pSlice e x lo hi).map (shV g d) := by
  cases x with
  | slice a n e' =>
    have key : ∀ L R : Option Int, (L.bind fun l => R.bind fun h =>
      if 0 ≤ l ∧ l ≤ h ∧ h ≤ n then
        match a.map (shA g d) with
        | none => if n = 0 ∧ e' = 0 then some (.slice none 0 0) else none
        | some ⟨b, o, none⟩ => if e' = e ∧ 0 < e then some (.slice (some ⟨b, o + l.toNat * e, none⟩) (h.toNat - l.toNat) e) else none
        | _ => none
      else none : Option Value) = (L.bind fun l => R.bind fun h =>
      if 0 ≤ l ∧ l ≤ h ∧ h ≤ n then
        match a with
        | none => if n = 0 ∧ e' = 0 then some (.slice none 0 0) else none
        | some ⟨b, o, none⟩ => if e' = e ∧ 0 < e then some (.slice (some ⟨b, o + l.toNat * e, none⟩) (h.toNat - l.toNat) e) else none
        | _ => none
      else none : Option Value).map (shV g d) := by
      intro L R
      cases L with
      | none => rfl
      | some l =>
        cases R with
        | none => rfl
        | some r =>
          simp only [Option.bind_some]
          split
          · cases a with
            | none => simp only [Option.map_none]; split <;> simp
            | some a =>
              obtain ⟨b, o, sp⟩ := a
              cases sp with
              | none => simp only [Option.map_some, shA]; split <;> simp [shA]
              | some sp => simp [shA]
          · rfl
    cases lo with
    | none =>
      cases hi with
      | none => simp only [sh_slice, pSlice, Option.map_none]; exact key (some 0) (some n)
      | some h => simp only [sh_slice, pSlice, Option.map_some, sh_pInt?]; exact key (some 0) (pInt? h)
    | some l =>
      cases hi with
      | none => simp only [sh_slice, pSlice, Option.map_some, sh_pInt?]; exact key (pInt? l) (some n)
      | some h => simp only [sh_slice, pSlice, Option.map_some, sh_pInt?]; exact key (pInt? l) (pInt? h)
  | _ => simp [pSlice]
theorem sh_pSlice0 {x hi mx v : Value} (h : pSlice0 x hi mx = some v) : pSlice0 ((shV g d) x) ((shV g d) hi) ((shV g d) mx) = some ((shV g d) v) := by
  unfold pSlice0 at h
  split at h
  · cases h; simp [pSlice0]
  · cases h; simp [pSlice0, shA]
  · cases h
theorem sh_isInt (v : Value) : isIntV ((shV g d) v) = isIntV v := by cases v <;> simp [isIntV]
theorem sh_keyOK (cl : KCls) (k : Value) : keyOK cl ((shV g d) k) = keyOK cl k := by
  cases cl <;> cases k <;> simp [keyOK]
  rename_i n cs
  congr 2
  funext v; exact sh_isInt v
theorem sh_keyEq (cl : KCls) (a b : Value) : keyEq cl ((shV g d) a) ((shV g d) b) = keyEq cl a b := by
  cases cl with
  | flat n =>
    cases a <;> cases b <;> simp [keyEq]
    rename_i x y
    rw [show eqCells (List.map (shV g d) x.toList) (List.map (shV g d) y.toList) = eqCells x.toList y.toList from sh_eqCells _ _]
  | int => cases a <;> cases b <;> simp [keyEq]
  | string => cases a <;> cases b <;> simp [keyEq]
theorem sh_findKey (cl : KCls) (k : Value) : ∀ (es : List MapEntry) (i : Nat), findKey' cl ((shV g d) k) (es.map (shE g d)) i = (findKey' cl k es i).map fun r => r.map fun p => (p.1, (shV g d) p.2) := by
  intro es
  induction es with
  | nil => intro i; rfl
  | cons e es ih =>
    intro i
    simp only [List.map_cons, findKey', shE, sh_keyEq]
    cases keyEq cl k e.key with
    | none => rfl
    | some b =>
      simp only [Option.bind_some]
      cases b with
      | true => simp
      | false => simp only [Bool.false_eq_true, if_false]; exact ih _
theorem sh_pCallee (v : Value) (args : List Value) : pCallee ((shV g d) v) (shL g d args) = (pCallee v args).map fun r => (r.1, shL g d r.2) := by
  cases v with
  | func fn f c => cases fn <;> simp [pCallee, shL]
  | _ => simp [pCallee]
end

/-! ### Operations on the tree -/
def eCells (E : EH) (b : Nat) : Option (List Value) :=
  match E.get b with
  | some (.cells _ cs) => some cs
  | _ => none
def eLd1 (v : Value) (E : EH) : Option Value := (pAt v).bind fun a => (eCells E a.1).bind fun cs => cs[a.2]?
def eLdN (n : Nat) (v : Value) (E : EH) : Option Value :=
  (pAt v).bind fun a => (eCells E a.1).bind fun cs => if a.2 + n ≤ cs.length then some (.agg ((cs.drop a.2).take n).toArray) else none
def eSt (n : Nat) (v x : Value) (E : EH) : Option EH :=
  (pAt v).bind fun a => match E.get a.1 with
    | some (.cells false cs) => if x.cells.size = n ∧ a.2 + n ≤ cs.length ∧ x.cells.toList.all Value.oneCell' = true then E.set a.1 (.cells false (splice cs a.2 x.cells.toList)) else none
    | _ => none
def eNew (cs : List Value) (E : EH) : Option (Value × EH) := (E.push (.cells false cs)).map fun E' => (.pointer (some ⟨E.n, 0, none⟩), E')
def eRowP (n e : Nat) (cs : List Value) (E : EH) : Option (Value × EH) := (E.push (.cells false cs)).map fun E' => (.slice (some ⟨E.n, 0, none⟩) n e, E')
def eLenM (v : Value) (E : EH) : Option Value :=
  match v with
  | .map none => some (.int .i64 0)
  | .map (some b) => match E.get b with
    | some (.map es _) => some (.int .i64 es.length)
    | _ => none
  | _ => none
def eRow (e : Nat) (x : Value) (E : EH) : Option (Nat × List Value) :=
  match x with
  | .slice none n _ => if n = 0 then some (0, []) else none
  | .slice (some ⟨b, o, none⟩) m _ => if m = 0 then some (0, []) else (eCells E b).bind fun cs => if o + m * e ≤ cs.length then some (m, (cs.drop o).take (m * e)) else none
  | _ => none
def eApp (e bytes : Nat) (s x : Value) (E : EH) : Option (Value × EH) :=
  (eRow e x E).bind fun r =>
    if r.2.all Value.oneCell' = true ∧ 0 < e then
      match s with
      | .slice none n k => if n = 0 ∧ k = 0 then (if r.1 = 0 then some (.slice none 0 0, E) else if r.1 * bytes ≤ room ∧ r.1 ≤ room then eRowP r.1 e r.2 E else none) else none
      | .slice (some ⟨b, o, none⟩) n e' =>
        if r.1 = 0 then some (s, E)
        else if e' = 0 then (if n = 0 ∧ r.1 * bytes ≤ room ∧ r.1 ≤ room then eRowP r.1 e r.2 E else none)
        else match E.get b with
          | some (.cells false cs) =>
            if e' = e ∧ o + n * e ≤ cs.length ∧ (n + r.1) * bytes ≤ room ∧ n + r.1 ≤ room then (E.set b .dead).bind fun E1 => eRowP (n + r.1) e ((cs.drop o).take (n * e) ++ r.2) E1 else none
          | _ => none
      | _ => none
    else none
def eMake (zero : List Value) (e bytes : Nat) (len cap : Value) (E : EH) : Option (Value × EH) :=
  match len, cap with
  | .int _ l, .int _ c => if 0 ≤ l ∧ l = c ∧ l.toNat * bytes ≤ room ∧ l.toNat ≤ room ∧ 0 < e ∧ zero.length = e then
      eRowP l.toNat e (List.replicate l.toNat zero).flatten E else none
  | _, _ => none
def eMapOf (v : Value) (E : EH) : Option (List MapEntry × Nat) :=
  match v with
  | .map none => some ([], 0)
  | .map (some b) => match E.get b with
    | some (.map es c) => some (es, c)
    | _ => none
  | _ => none
def eLookup (fl : KCls) (zero : Value) (m k : Value) (ok : Bool) (E : EH) : Option Value :=
  if keyOK fl k = true then (eMapOf m E).bind fun es => (findKey' fl k es.1 0).map fun r => match r with
    | some (_, v) => if ok then .tuple #[v, .bool true] else v
    | none => if ok then .tuple #[zero, .bool false] else zero
  else none
def eUpdate (fl : KCls) (m k x : Value) (E : EH) : Option EH :=
  if keyOK fl k = true then match m with
  | .map (some b) => match E.get b with
    | some (.map es c) => (findKey' fl k es 0).bind fun r => match r with
      | some (i, _) => E.set b (.map (es.modify i fun e => { e with key := k, val := x }) c)
      | none => E.set b (.map (es ++ [{ key := k, val := x, born := c }]) (c + 1))
    | _ => none
  | _ => none
  else none
def eDelete (fl : KCls) (m k : Value) (E : EH) : Option EH :=
  if keyOK fl k = true then match m with
  | .map (some b) => match E.get b with
    | some (.map es c) => (findKey' fl k es 0).bind fun r => match r with
      | some (i, _) => E.set b (.map (es.eraseIdx i) c)
      | none => E.set b (.map es c)
    | _ => none
  | _ => none
  else none

/-- The tree's outcome, and the heap's. -/
def Did (g d : Nat) (F : List AObj) (x : Option (Value × EH)) (y : Option (Value × AH)) : Prop := ∀ v E', x = some (v, E') → ∃ H', y = some (shV g d v, H') ∧ HR g d F E' H'
def DidH (g d : Nat) (F : List AObj) (x : Option EH) (y : Option AH) : Prop := ∀ E', x = some E' → ∃ H', y = some H' ∧ HR g d F E' H'

section
variable {g d : Nat} {F : List AObj} {E E' : EH} {H : AH}
theorem HR.cells (h : HR g d F E H) (b : Nat) : pCells H (shB g d b) = (eCells E b).map (shL g d) := by
  unfold pCells eCells
  rw [h.get b]
  cases E.get b with
  | none => rfl
  | some o => cases o <;> rfl
theorem HR.ld1 (h : HR g d F E H) (v : Value) : pLd1 ((shV g d) v) H = (eLd1 v E).map (shV g d) := by
  unfold pLd1 eLd1
  rw [sh_pAt]
  cases pAt v with
  | none => rfl
  | some a =>
    simp only [Option.map_some, Option.bind_some, h.cells]
    cases eCells E a.1 <;> simp [shL]
theorem HR.ldN (h : HR g d F E H) (n : Nat) (v : Value) : pLdN n ((shV g d) v) H = (eLdN n v E).map (shV g d) := by
  unfold pLdN eLdN
  rw [sh_pAt]
  cases pAt v with
  | none => rfl
  | some a =>
    simp only [Option.map_some, Option.bind_some, h.cells]
    cases eCells E a.1 with
    | none => rfl
    | some cs =>
      simp only [Option.map_some, Option.bind_some, shL, List.length_map]
      split
      · simp [List.map_take, List.map_drop]
      · rfl
theorem HR.st (h : HR g d F E H) (n : Nat) (v x : Value) : DidH g d F (eSt n v x E) (pSt n ((shV g d) v) ((shV g d) x) H) := by
  intro E' he
  unfold eSt at he
  unfold pSt
  rw [sh_pAt]
  obtain ⟨a, ha, he⟩ := Option.bind_eq_some_iff.1 he
  rw [ha]
  simp only [Option.map_some, Option.bind_some, h.get]
  split at he
  · rename_i cs hcs
    split at he
    · rename_i hc
      rw [hcs]
      simp only [Option.map_some, shO]
      rw [sh_cells, Array.size_map, Array.toList_map, show (shL g d cs).length = cs.length from List.length_map _, show (List.map (shV g d) x.cells.toList).all Value.oneCell' = x.cells.toList.all Value.oneCell' from sh_ones _, if_pos hc,
        show splice (shL g d cs) a.2 (List.map (shV g d) x.cells.toList) = shL g d (splice cs a.2 x.cells.toList) from sh_splice _ _ _]
      exact ⟨_, rfl, h.set (h.lt hcs) he⟩
    · cases he
  · cases he
theorem HR.new' (h : HR g d F E H) (cs : List Value) : Did g d F (eNew cs E) (some (pNew (shL g d cs) H)) := by
  intro v E' he
  obtain ⟨E1, h1, e⟩ := Option.map_eq_some_iff.1 he
  cases e
  exact ⟨H.push (shO g d (.cells false cs)), by simp [pNew, h.new, shA, shO], h.push h1⟩
theorem HR.rowP (h : HR g d F E H) (n e : Nat) (cs : List Value) : Did g d F (eRowP n e cs E) (some (.slice (some ⟨H.size, 0, none⟩) n e, H.push (.cells false (shL g d cs)))) := by
  intro v E' he
  obtain ⟨E1, h1, e⟩ := Option.map_eq_some_iff.1 he
  cases e
  exact ⟨H.push (shO g d (.cells false cs)), by simp [h.new, shA, shO], h.push h1⟩
theorem HR.lenM (h : HR g d F E H) (v : Value) : pLenM ((shV g d) v) H = (eLenM v E).map (shV g d) := by
  cases v with
  | map r =>
    cases r with
    | none => simp [pLenM, eLenM]
    | some b =>
      simp only [sh_map, Option.map_some, pLenM, eLenM, h.get]
      cases E.get b with
      | none => rfl
      | some o => cases o <;> simp [shO]
  | _ => simp [pLenM, eLenM]
theorem HR.row (h : HR g d F E H) (e : Nat) (x : Value) : pRow e ((shV g d) x) H = (eRow e x E).map fun r => (r.1, shL g d r.2) := by
  cases x with
  | slice a n k =>
    cases a with
    | none => simp only [sh_slice, Option.map_none, pRow, eRow]; split <;> rfl
    | some a =>
      obtain ⟨b, o, sp⟩ := a
      cases sp with
      | some sp => simp [pRow, eRow, shA]
      | none =>
        simp only [sh_slice, Option.map_some, shA, pRow, eRow, h.cells]
        split
        · rfl
        · cases eCells E b with
          | none => rfl
          | some cs =>
            simp only [Option.map_some, Option.bind_some, shL, List.length_map]
            split
            · simp [List.map_take, List.map_drop]
            · rfl
  | _ => simp [pRow, eRow]
theorem HR.mapOf (h : HR g d F E H) (v : Value) : pMapOf ((shV g d) v) H = (eMapOf v E).map fun r => (r.1.map (shE g d), r.2) := by
  cases v with
  | map r =>
    cases r with
    | none => simp [pMapOf, eMapOf]
    | some b =>
      simp only [sh_map, Option.map_some, pMapOf, eMapOf, h.get]
      cases E.get b with
      | none => rfl
      | some o => cases o <;> simp [shO]
  | _ => simp [pMapOf, eMapOf]
theorem HR.lookup (h : HR g d F E H) (fl : KCls) {zero : Value} (hz : (shV g d) zero = zero) (m k : Value) (ok : Bool) : pLookup fl zero ((shV g d) m) ((shV g d) k) ok H = (eLookup fl zero m k ok E).map (shV g d) := by
  unfold pLookup eLookup
  rw [sh_keyOK]
  split
  · rw [h.mapOf]
    cases eMapOf m E with
    | none => rfl
    | some es =>
      simp only [Option.map_some, Option.bind_some, sh_findKey]
      cases findKey' fl k es.1 0 with
      | none => rfl
      | some r =>
        cases r with
        | none => cases ok <;> simp [hz]
        | some p => cases ok <;> simp
  · rfl
theorem HR.update (h : HR g d F E H) (fl : KCls) (m k x : Value) : DidH g d F (eUpdate fl m k x E) (pUpdate fl ((shV g d) m) ((shV g d) k) ((shV g d) x) H) := by
  intro E' he
  unfold eUpdate at he
  split at he
  · rename_i hk
    split at he
    · rename_i b
      split at he
      · rename_i es c hb
        obtain ⟨r, hr, he⟩ := Option.bind_eq_some_iff.1 he
        have hg : H.get (shB g d b) = some (.map (es.map (shE g d)) c) := by rw [h.get, hb]; rfl
        have hf := sh_findKey (g := g) (d := d) fl k es 0
        rw [hr] at hf
        simp only [sh_map, Option.map_some, pUpdate, sh_keyOK, hk, if_true, hg]
        cases r with
        | some p =>
          have hf : findKey' fl ((shV g d) k) (es.map (shE g d)) 0 = some (some (p.1, (shV g d) p.2)) := hf
          rw [hf]
          refine ⟨_, rfl, ?_⟩
          have := h.set (h.lt hb) he
          simp only [shO] at this
          show HR g d F E' (H.set (shB g d b) (.map ((es.map (shE g d)).modify p.1 fun e => { e with key := (shV g d) k, val := (shV g d) x }) c))
          rw [show (es.map (shE g d)).modify p.1 (fun e => { e with key := (shV g d) k, val := (shV g d) x }) = (es.modify p.1 fun e => { e with key := k, val := x }).map (shE g d) from ?_]
          · exact this
          · apply List.ext_getElem?
            intro i
            simp only [List.getElem?_modify, List.getElem?_map]
            cases es[i]? with
            | none => rfl
            | some e => simp only [Option.map_some, Option.map_map]; split <;> rfl
        | none =>
          have hf : findKey' fl ((shV g d) k) (es.map (shE g d)) 0 = some none := hf
          rw [hf]
          refine ⟨_, rfl, ?_⟩
          have := h.set (h.lt hb) he
          simp only [shO, List.map_append, List.map_cons, List.map_nil, shE] at this
          exact this
      · cases he
    · cases he
  · cases he
theorem HR.delete (h : HR g d F E H) (fl : KCls) (m k : Value) : DidH g d F (eDelete fl m k E) (pDelete fl ((shV g d) m) ((shV g d) k) H) := by
  intro E' he
  unfold eDelete at he
  split at he
  · rename_i hk
    split at he
    · rename_i b
      split at he
      · rename_i es c hb
        obtain ⟨r, hr, he⟩ := Option.bind_eq_some_iff.1 he
        have hg : H.get (shB g d b) = some (.map (es.map (shE g d)) c) := by rw [h.get, hb]; rfl
        have hf := sh_findKey (g := g) (d := d) fl k es 0
        rw [hr] at hf
        simp only [sh_map, Option.map_some, pDelete, sh_keyOK, hk, if_true, hg]
        cases r with
        | some p =>
          have hf : findKey' fl ((shV g d) k) (es.map (shE g d)) 0 = some (some (p.1, (shV g d) p.2)) := hf
          rw [hf]
          refine ⟨_, rfl, ?_⟩
          have := h.set (h.lt hb) he
          simp only [shO] at this
          show HR g d F E' (H.set (shB g d b) (.map ((es.map (shE g d)).eraseIdx p.1) c))
          rw [show (es.map (shE g d)).eraseIdx p.1 = (es.eraseIdx p.1).map (shE g d) from by simp [List.eraseIdx_eq_take_drop_succ, List.map_take, List.map_drop]]
          exact this
        | none =>
          have hf : findKey' fl ((shV g d) k) (es.map (shE g d)) 0 = some none := hf
          rw [hf]
          exact ⟨_, rfl, h.set (h.lt hb) he⟩
      · cases he
    · cases he
  · cases he
theorem HR.make (h : HR g d F E H) {zero : List Value} (hz : shL g d zero = zero) (e by' : Nat) (len cap : Value) : Did g d F (eMake zero e by' len cap E) (pMake zero e by' ((shV g d) len) ((shV g d) cap) H) := by
  intro v E' he
  unfold eMake at he
  split at he
  · split at he
    · rename_i k1 l k2 c hc
      obtain ⟨H', h1, h2⟩ := h.rowP _ _ _ v E' he
      refine ⟨H', ?_, h2⟩
      simp only [sh_int, pMake]
      rw [if_pos hc, ← h1]
      congr 4
      rw [shL, List.map_flatten, List.map_replicate, show List.map (shV g d) zero = zero from hz]
    · cases he
  · cases he
theorem HR.app (h : HR g d F E H) (e by' : Nat) (x y : Value) : Did g d F (eApp e by' x y E) (pApp e by' ((shV g d) x) ((shV g d) y) H) := by
  intro v E' he
  unfold eApp at he
  unfold pApp
  rw [h.row]
  obtain ⟨r, hr, he⟩ := Option.bind_eq_some_iff.1 he
  rw [hr]
  simp only [Option.map_some, Option.bind_some]
  rw [show (shL g d r.2).all Value.oneCell' = r.2.all Value.oneCell' from sh_ones _]
  split at he
  · rename_i hc
    rw [if_pos hc]
    split at he
    · rename_i n k
      simp only [sh_slice, Option.map_none]
      split at he
      · rename_i h0
        rw [if_pos h0]
        split at he
        · rename_i h1
          rw [if_pos h1]; cases he; exact ⟨H, by simp, h⟩
        · rename_i h1
          rw [if_neg h1]
          split at he
          · rename_i h2
            rw [if_pos h2]
            exact h.rowP _ _ _ v E' he
          · cases he
      · cases he
    · rename_i _ b o n e' _
      simp only [sh_slice, Option.map_some, shA]
      split at he
      · rename_i h1
        rw [if_pos h1]; cases he; exact ⟨H, by simp [shA], h⟩
      · rename_i h1
        rw [if_neg h1]
        split at he
        · rename_i h2
          rw [if_pos h2]
          split at he
          · rename_i h3
            rw [if_pos h3]
            exact h.rowP _ _ _ v E' he
          · cases he
        · rename_i h2
          rw [if_neg h2]
          split at he
          · rename_i cs hb
            have hg : H.get (shB g d b) = some (.cells false (shL g d cs)) := by rw [h.get, hb]; rfl
            rw [hg]
            simp only
            rw [show (shL g d cs).length = cs.length from List.length_map _]
            split at he
            · rename_i h3
              rw [if_pos h3]
              obtain ⟨E1, h4, he⟩ := Option.bind_eq_some_iff.1 he
              have hs := h.set (h.lt hb) h4
              obtain ⟨H', h5, h6⟩ := hs.rowP _ _ _ v E' he
              refine ⟨H', ?_, h6⟩
              rw [← h5, AH.size_set]
              simp [shO, shL, List.map_take, List.map_drop]
            · cases he
          · cases he
    · cases he
  · cases he
end
end Go.Proofs.YthagelbepgcolaaGreatDoor.Gst
/- One operation by the tree, and by the abstract heap. -/
namespace Go.Proofs.YthagelbepgcolaaGreatDoor.Gst
open Go Go.RowKit
set_option linter.unusedSimpArgs false
set_option linter.unusedVariables false

abbrev TF := Nat → List Value → EH → Option (Value × EH)

def tBuiltin (P : Program) (b : Builtin) (argTypes : Array TypeId) (args : List Value) (E : EH) : Option (Value × EH) :=
  match b, args with
  | .len, [x] => match (argTypes[0]?).bind fun t => P.underlying t with
    | some (.slice _) => match x with | .slice _ _ _ => (pLen x).map (·, E) | _ => none
    | some .string => match x with | .string _ => (pLen x).map (·, E) | _ => none
    | some (.map _ _) => (eLenM x E).map (·, E)
    | _ => none
  | .max, args => (pMax args).map (·, E)
  | .min, args => (pMin args).map (·, E)
  | .append, [s, x] => (argTypes[0]?).bind fun t => (elemOf' P t).bind fun el => (szOf P el).bind fun e => (bytesOf' P el).bind fun by' => (zeroOf P el).bind fun z =>
      if z.cells.size = e ∧ (argTypes[1]?).bind (fun u => elemOf' P u) = some el then eApp e by' s x E else none
  | .delete, [m, k] => (argTypes[0]?).bind fun t => (mapTypes P t).bind fun kt => (flatKey P kt.1).bind fun fl => (eDelete fl m k E).map fun E' => (.tuple #[], E')
  | _, _ => none

def tRd (P : Program) (ev : Operand → Value) (op : Op) (E : EH) : Option Value :=
  match op with
  | .load t a => (aggOf P t).bind fun g => match g with
    | some n => eLdN n (ev a) E
    | none => eLd1 (ev a) E
  | .lookup t m k ok => (mapTypes P t).bind fun kt => (flatKey P kt.1).bind fun fl => (zeroOf P kt.2).bind fun z => eLookup fl z (ev m) (ev k) ok E
  | .call c => match c.args.toList.map ev with
    | [x] => match (c.argTypes[0]?).bind fun t => P.underlying t with
      | some (.slice _) => match x with | .slice _ _ _ => pLen x | _ => none
      | some .string => match x with | .string _ => pLen x | _ => none
      | some (.map _ _) => eLenM x E
      | _ => none
    | _ => none
  | _ => none

def tOp (P : Program) (call : TF) (ev : Operand → Value) (o : Oper) (E : EH) : Option (Value × EH) :=
  match o.op with
  | .move x => some (ev x, E)
  | .assign x => some (ev x, E)
  | .pick c a b => (pPick (ev c) (ev a) (ev b)).map (·, E)
  | .alloc t => (zeroOf P t).bind fun z => eNew z.cells.toList E
  | .box _ x => eNew (ev x).cells.toList E
  | .build t parts => match P.underlying t with
    | some (.struct fs) => (zeroOf P t).bind fun z => (placesOf P fs.toList).bind fun ps => (pFill (ps[·]?) z.cells.toList (parts.toList.map fun p => (p.1, ev p.2))).map fun cs => (.agg cs.toArray, E)
    | some (.array _ el) => (zeroOf P t).bind fun z => (szOf P el).bind fun e => (pFill (fun i => some (i * e, e)) z.cells.toList (parts.toList.map fun p => (p.1, ev p.2))).map fun cs => (.agg cs.toArray, E)
    | _ => none
  | .buildSlice t len parts => (elemOf' P t).bind fun el => (szOf P el).bind fun e => (zeroOf P el).bind fun z =>
      if 0 < e ∧ z.cells.size = e ∧ len * e ≤ 2 ^ 24 then
        (pFill (fun i => some (i * e, e)) (List.replicate len z.cells.toList).flatten (parts.toList.map fun p => (p.1, ev p.2))).bind fun cs => eRowP len e cs E
      else none
  | .load t a => (aggOf P t).bind fun g => match g with
    | some n => (eLdN n (ev a) E).map (·, E)
    | none => (eLd1 (ev a) E).map (·, E)
  | .store t a x => (szOf P t).bind fun n => (eSt n (ev a) (ev x) E).map fun E' => (undef, E')
  | .nilCheck x => (pNil (ev x)).map (·, E)
  | .binOp op t x y _ => (pBin (clsOf P t) op (ev x) (ev y)).map (·, E)
  | .unOp op _ x => (pUn op (ev x)).map (·, E)
  | .convert src dst x => match P.underlying src with
    | some _ => (pConv (kindOf P dst) (ev x)).map (·, E)
    | none => none
  | .makeFunc fn first captured => some (.func fn (first.map ev) (captured.map ev), E)
  | .makeMap _ none => (E.push (.map [] 0)).map fun E' => (.map (some E.n), E')
  | .makeSlice t l c => (elemOf' P t).bind fun el => (szOf P el).bind fun e => (bytesOf' P el).bind fun by' => (zeroOf P el).bind fun z => eMake z.cells.toList e by' (ev l) (ev c) E
  | .slice t x lo hi none => (elemOf' P t).bind fun el => (szOf P el).bind fun e => (pSlice e (ev x) (lo.map ev) (hi.map ev)).map (·, E)
  | .slice t x none (some hi) (some mx) => (elemOf' P t).bind fun el => (szOf P el).bind fun _ => (pSlice0 (ev x) (ev hi) (ev mx)).map (·, E)
  | .fieldAddr s x f => (fieldOf P s f).bind fun f => (szOf P f.type).bind fun n => if n = 0 then none else (pFld f.offset (ev x)).map (·, E)
  | .field s x f => (fieldOf P s f).bind fun f => (aggOf P f.type).bind fun n => (pPart n f.offset (ev x)).map (·, E)
  | .indexAddr t x i => match P.underlying t with
    | some (.slice el) => (szOf P el).bind fun e => (pIdx e (ev x) (ev i)).map (·, E)
    | some (.array len el) => (szOf P el).bind fun e => (pIdxA len e (ev x) (ev i)).map (·, E)
    | _ => none
  | .index t x i => match P.underlying t with
    | some (.array len el) => (szOf P el).bind fun e => (aggOf P el).bind fun n => (pIndexV len n e (ev x) (ev i)).map (·, E)
    | some .string => (pIndexS (ev x) (ev i)).map (·, E)
    | _ => none
  | .lookup t m k ok => (mapTypes P t).bind fun kt => (flatKey P kt.1).bind fun fl => (zeroOf P kt.2).bind fun z => (eLookup fl z (ev m) (ev k) ok E).map (·, E)
  | .mapUpdate t m k x => (mapTypes P t).bind fun kt => (flatKey P kt.1).bind fun fl => (eUpdate fl (ev m) (ev k) (ev x) E).map fun E' => (undef, E')
  | .extract t i => (pExtract (ev t) i).map (·, E)
  | .call c => match c.callee with
    | .builtin b => tBuiltin P b c.argTypes (c.args.toList.map ev) E
    | .value f => (pCallee (ev f) (c.args.toList.map ev)).bind fun fa => call fa.1 fa.2 E
    | _ => none
  | _ => none

section
variable {P : Program} {g d : Nat} {F : List AObj} {E E' : EH} {H : AH}
theorem zeroOf_sh {t : TypeId} {z : Value} (h : zeroOf P t = some z) : (shV g d) z = z ∧ shL g d z.cells.toList = z.cells.toList := by
  obtain ⟨i, _, _, h1, h2⟩ := zeroOf_info h
  exact ⟨sh_const h2, sh_lits h1⟩
/-- A value that touches no memory. -/
theorem Did.val (h : HR g d F E H) {x y : Option Value} (e : y = x.map (shV g d)) : Did g d F (x.map (·, E)) (y.map (·, H)) := by
  intro v E' hx
  obtain ⟨z, hz, e1⟩ := Option.map_eq_some_iff.1 hx
  cases e1
  rw [e, hz]
  exact ⟨H, rfl, h⟩
theorem Did.bind {α : Type} {o : Option α} {f : α → Option (Value × EH)} {f' : α → Option (Value × AH)} (h : ∀ a, o = some a → Did g d F (f a) (f' a)) : Did g d F (o.bind f) (o.bind f') := by
  intro v E' hx
  obtain ⟨a, ha, hx⟩ := Option.bind_eq_some_iff.1 hx
  rw [ha]
  exact h a ha v E' hx
theorem Did.no {y : Option (Value × AH)} : Did g d F none y := fun v E' h => by cases h
theorem Did.ite {c : Prop} [Decidable c] {x : Option (Value × EH)} {y : Option (Value × AH)} (h : c → Did g d F x y) : Did g d F (if c then x else none) (if c then y else none) := by
  intro v E' hx
  split at hx
  · rename_i hc; rw [if_pos hc]; exact h hc v E' hx
  · cases hx
theorem Did.heap {x : Option EH} {y : Option AH} (v : Value) (hv : (shV g d) v = v) (h : DidH g d F x y) : Did g d F (x.map fun E' => (v, E')) (y.map fun H' => (v, H')) := by
  intro v' E' hx
  obtain ⟨E1, h1, e⟩ := Option.map_eq_some_iff.1 hx
  cases e
  obtain ⟨H', h2, h3⟩ := h E' h1
  exact ⟨H', by rw [h2, hv]; rfl, h3⟩
theorem ev_map {ev ev' : Operand → Value} {l : List Operand} (h : ∀ x ∈ l, ev' x = (shV g d) (ev x)) : l.map ev' = shL g d (l.map ev) := by
  rw [shL, List.map_map]
  exact List.map_congr_left h

theorem builtin_did (h : HR g d F E H) (b : Builtin) (ats : Array TypeId) (args : List Value) : Did g d F (tBuiltin P b ats args E) (aBuiltin P b ats (shL g d args) H) := by
  intro v E' hx
  unfold tBuiltin at hx
  split at hx
  · rename_i x
    simp only [shL, List.map_cons, List.map_nil, aBuiltin]
    split at hx
    · rename_i hu
      rw [hu]
      simp only
      split at hx
      · simp only [sh_slice]
        exact Did.val h (by rw [← sh_slice, sh_pLen]) v E' hx
      · cases hx
    · rename_i hu
      rw [hu]
      simp only
      split at hx
      · simp only [sh_string]
        exact Did.val h (by simp [pLen]) v E' hx
      · cases hx
    · rename_i hu
      rw [hu]
      exact Did.val h (h.lenM _) v E' hx
    · cases hx
  · exact Did.val h (sh_pMax _) v E' hx
  · exact Did.val h (sh_pMin _) v E' hx
  · simp only [shL, List.map_cons, List.map_nil, aBuiltin]
    exact Did.bind (fun t _ => Did.bind fun el _ => Did.bind fun e _ => Did.bind fun by' _ => Did.bind fun z _ => Did.ite fun _ => h.app _ _ _ _) v E' hx
  · simp only [shL, List.map_cons, List.map_nil, aBuiltin]
    exact Did.bind (fun t _ => Did.bind fun kt _ => Did.bind fun fl _ => Did.heap _ (by simp) (h.delete _ _ _)) v E' hx
  · cases hx

theorem rd_sh (h : HR g d F E H) {ev ev' : Operand → Value} {op : Op} (hev : ∀ x, x ∈ op.operands.toList → ev' x = (shV g d) (ev x)) : aRd P ev' op H = (tRd P ev op E).map (shV g d) := by
  cases op with
  | load t a =>
    simp only [aRd, tRd]
    rw [hev a (by simp [Op.operands])]
    cases aggOf P t with
    | none => rfl
    | some n => cases n with
      | none => exact h.ld1 _
      | some n => exact h.ldN _ _
  | lookup t m k ok =>
    simp only [aRd, tRd]
    rw [hev m (by simp [Op.operands]), hev k (by simp [Op.operands])]
    cases mapTypes P t with
    | none => rfl
    | some kt =>
      simp only [Option.bind_some]
      cases flatKey P kt.1 with
      | none => rfl
      | some fl =>
        simp only [Option.bind_some]
        cases hz : zeroOf P kt.2 with
        | none => rfl
        | some z => exact h.lookup fl (zeroOf_sh hz).1 _ _ _
  | call c =>
    have ha : c.args.toList.map ev' = shL g d (c.args.toList.map ev) := ev_map fun x hx => hev x (by simp only [Op.operands, Call.operands, Array.toList_append, List.mem_append]; exact .inr hx)
    simp only [aRd, tRd]
    rw [ha]
    generalize c.args.toList.map ev = l
    match l with
    | [] => rfl
    | [x] =>
      simp only [shL, List.map_cons, List.map_nil]
      generalize (c.argTypes[0]?).bind (fun t => P.underlying t) = u
      cases u with
      | none => rfl
      | some u => cases u <;> first | rfl | exact h.lenM _ | (cases x <;> simp [pLen])
    | x :: y :: l => rfl
  | _ => rfl

def CallDid (g d : Nat) (F : List AObj) (c : TF) (c' : CallF) : Prop := ∀ (E : EH) (H : AH) f args, HR g d F E H → Did g d F (c f args E) (c' f (shL g d args) H)

theorem op_did (h : HR g d F E H) {c : TF} {c' : CallF} (hc : CallDid g d F c c') {ev ev' : Operand → Value} {o : Oper} (hev : ∀ x, x ∈ o.op.operands.toList → ev' x = (shV g d) (ev x)) :
    Did g d F (tOp P c ev o E) (aOp P c' ev' o H) := by
  obtain ⟨dst, op, type, pos, after, guard⟩ := o
  simp only at hev
  have fill : ∀ (parts : Array (Nat × Operand)), (∀ x, x ∈ (parts.toList.map (·.2)) → ev' x = (shV g d) (ev x)) → (parts.toList.map fun p => (p.1, ev' p.2)) = (parts.toList.map fun p => (p.1, ev p.2)).map fun p => (p.1, (shV g d) p.2) := by
    intro parts hp
    rw [List.map_map]
    refine List.map_congr_left fun p hpm => ?_
    simp only [Function.comp]
    rw [hp p.2 (List.mem_map_of_mem hpm)]
  have arr : ∀ (l : Array Operand), (∀ x ∈ l.toList, ev' x = (shV g d) (ev x)) → l.map ev' = (l.map ev).map (shV g d) := by
    intro l hl
    apply Array.toList_inj.1
    rw [Array.toList_map, Array.toList_map, Array.toList_map]
    exact ev_map hl
  cases op
  case move x => intro v E' hx; simp only [tOp] at hx; cases hx; exact ⟨H, by simp only [aOp]; rw [hev x (by simp [Op.operands])], h⟩
  case assign x => intro v E' hx; simp only [tOp] at hx; cases hx; exact ⟨H, by simp only [aOp]; rw [hev x (by simp [Op.operands])], h⟩
  case pick k a b =>
    simp only [tOp, aOp]
    rw [hev k (by simp [Op.operands]), hev a (by simp [Op.operands]), hev b (by simp [Op.operands])]
    exact Did.val h (sh_pPick _ _ _)
  case alloc t =>
    intro v E' hx
    simp only [tOp] at hx
    simp only [aOp]
    obtain ⟨z, hz, hx⟩ := Option.bind_eq_some_iff.1 hx
    rw [hz]
    have := h.new' _ v E' hx
    rw [(zeroOf_sh hz).2] at this
    exact this
  case box t x =>
    simp only [tOp, aOp]
    rw [hev x (by simp [Op.operands]), sh_cellsL]
    exact h.new' _
  case build t parts =>
    have hp := fill parts fun x hx => hev x (by simpa [Op.operands] using hx)
    intro v E' hx
    simp only [tOp] at hx
    simp only [aOp]
    rw [hp]
    split at hx
    · rename_i fs hu
      rw [hu]
      simp only
      obtain ⟨z, hz, hx⟩ := Option.bind_eq_some_iff.1 hx
      obtain ⟨ps, hps, hx⟩ := Option.bind_eq_some_iff.1 hx
      obtain ⟨cs, hcs, e⟩ := Option.map_eq_some_iff.1 hx
      cases e
      have hf := sh_pFill (g := g) (d := d) (ps[·]?) (parts.toList.map fun p => (p.1, ev p.2)) z.cells.toList
      rw [(zeroOf_sh hz).2, hcs] at hf
      rw [hz, hps]
      simp only [Option.bind_some]
      rw [hf]
      exact ⟨H, by simp, h⟩
    · rename_i el hu
      rw [hu]
      simp only
      obtain ⟨z, hz, hx⟩ := Option.bind_eq_some_iff.1 hx
      obtain ⟨e, he, hx⟩ := Option.bind_eq_some_iff.1 hx
      obtain ⟨cs, hcs, e⟩ := Option.map_eq_some_iff.1 hx
      cases e
      have hf := sh_pFill (g := g) (d := d) (fun i => some (i * e, e)) (parts.toList.map fun p => (p.1, ev p.2)) z.cells.toList
      rw [(zeroOf_sh hz).2, hcs] at hf
      rw [hz, he]
      simp only [Option.bind_some]
      rw [hf]
      exact ⟨H, by simp, h⟩
    · cases hx
  case buildSlice t len parts =>
    have hp := fill parts fun x hx => hev x (by simpa [Op.operands] using hx)
    simp only [tOp, aOp]
    rw [hp]
    refine Did.bind fun el _ => Did.bind fun e _ => Did.bind fun z hz => Did.ite fun _ => ?_
    intro v E' hx
    obtain ⟨cs, hcs, hx⟩ := Option.bind_eq_some_iff.1 hx
    have hf := sh_pFill (g := g) (d := d) (fun i => some (i * e, e)) (parts.toList.map fun p => (p.1, ev p.2)) (List.replicate len z.cells.toList).flatten
    rw [hcs, show shL g d (List.replicate len z.cells.toList).flatten = (List.replicate len z.cells.toList).flatten from by
      rw [shL, List.map_flatten, List.map_replicate, show List.map (shV g d) z.cells.toList = z.cells.toList from (zeroOf_sh hz).2]] at hf
    rw [hf]
    exact h.rowP _ _ _ v E' hx
  case load t a =>
    simp only [tOp, aOp]
    rw [hev a (by simp [Op.operands])]
    refine Did.bind fun n _ => ?_
    cases n with
    | none => exact Did.val h (h.ld1 _)
    | some n => exact Did.val h (h.ldN _ _)
  case store t a x =>
    simp only [tOp, aOp]
    rw [hev a (by simp [Op.operands]), hev x (by simp [Op.operands])]
    exact Did.bind fun n _ => Did.heap _ sh_undef (h.st _ _ _)
  case nilCheck x =>
    simp only [tOp, aOp]
    rw [hev x (by simp [Op.operands])]
    exact Did.val h (sh_pNil _)
  case binOp op t x y z =>
    simp only [tOp, aOp]
    rw [hev x (by simp [Op.operands]), hev y (by simp [Op.operands])]
    exact Did.val h (sh_pBin _ _ _ _)
  case unOp op t x =>
    simp only [tOp, aOp]
    rw [hev x (by simp [Op.operands])]
    exact Did.val h (sh_pUn _ _)
  case convert src dst x =>
    simp only [tOp, aOp]
    rw [hev x (by simp [Op.operands])]
    split
    · rename_i hu; rw [hu]; exact Did.val h (sh_pConv _ _)
    · exact Did.no
  case makeFunc fn first captured =>
    simp only [tOp, aOp]
    rw [arr first fun x hx => hev x (by simp only [Op.operands, Array.toList_append, List.mem_append]; exact .inl hx), arr captured fun x hx => hev x (by simp only [Op.operands, Array.toList_append, List.mem_append]; exact .inr hx)]
    intro v E' hx; cases hx; exact ⟨H, by simp, h⟩
  case makeMap t r =>
    cases r with
    | none =>
      intro v E' hx
      simp only [tOp] at hx
      simp only [aOp]
      obtain ⟨E1, h1, e⟩ := Option.map_eq_some_iff.1 hx
      cases e
      exact ⟨H.push (shO g d (.map [] 0)), by simp [h.new, shO], h.push h1⟩
    | some r => exact Did.no
  case makeSlice t l k =>
    simp only [tOp, aOp]
    rw [hev l (by simp [Op.operands]), hev k (by simp [Op.operands])]
    exact Did.bind fun el _ => Did.bind fun e _ => Did.bind fun by' _ => Did.bind fun z hz => h.make (zeroOf_sh hz).2 _ _ _ _
  case slice t x lo hi mx =>
    have hx := hev x (by simp [Op.operands])
    have ho : ∀ (q : Option Operand), (∀ y ∈ q.toArray.toList, ev' y = (shV g d) (ev y)) → q.map ev' = (q.map ev).map (shV g d) := by
      intro q hq
      cases q with
      | none => rfl
      | some y => simp [hq y (by simp)]
    have hlo : lo.map ev' = (lo.map ev).map (shV g d) := ho lo fun y hy => hev y (by simp only [Op.operands, Array.toList_append, List.mem_append]; exact .inl (.inl (.inr hy)))
    have hhi : hi.map ev' = (hi.map ev).map (shV g d) := ho hi fun y hy => hev y (by simp only [Op.operands, Array.toList_append, List.mem_append]; exact .inl (.inr hy))
    have hmx : mx.map ev' = (mx.map ev).map (shV g d) := ho mx fun y hy => hev y (by simp only [Op.operands, Array.toList_append, List.mem_append]; exact .inr hy)
    cases mx with
    | none =>
      simp only [tOp, aOp]
      rw [hx, hlo, hhi]
      exact Did.bind fun el _ => Did.bind fun e _ => Did.val h (sh_pSlice _ _ _ _)
    | some mx =>
      cases lo with
      | some lo => cases hi <;> exact Did.no
      | none =>
        cases hi with
        | none => exact Did.no
        | some hi =>
          simp only [Option.map_some, Option.some.injEq] at hhi hmx
          simp only [tOp, aOp]
          rw [hx, hhi, hmx]
          refine Did.bind fun el _ => Did.bind fun e _ => ?_
          intro v E' hv
          obtain ⟨z, hz, e⟩ := Option.map_eq_some_iff.1 hv
          cases e
          rw [sh_pSlice0 hz]
          exact ⟨H, rfl, h⟩
  case fieldAddr st x f =>
    simp only [tOp, aOp]
    rw [hev x (by simp [Op.operands])]
    refine Did.bind fun f _ => Did.bind fun n _ => ?_
    split
    · exact Did.no
    · exact Did.val h (sh_pFld _ _)
  case field st x f =>
    simp only [tOp, aOp]
    rw [hev x (by simp [Op.operands])]
    exact Did.bind fun f _ => Did.bind fun n _ => Did.val h (sh_pPart _ _ _)
  case indexAddr t x i =>
    simp only [tOp, aOp]
    rw [hev x (by simp [Op.operands]), hev i (by simp [Op.operands])]
    split
    · rename_i hu; rw [hu]; exact Did.bind fun e _ => Did.val h (sh_pIdx _ _ _)
    · rename_i hu; rw [hu]; exact Did.bind fun e _ => Did.val h (sh_pIdxA _ _ _ _)
    · exact Did.no
  case index t x i =>
    simp only [tOp, aOp]
    rw [hev x (by simp [Op.operands]), hev i (by simp [Op.operands])]
    split
    · rename_i hu; rw [hu]; exact Did.bind fun e _ => Did.bind fun n _ => Did.val h (sh_pIndexV _ _ _ _ _)
    · rename_i hu; rw [hu]; exact Did.val h (sh_pIndexS _ _)
    · exact Did.no
  case lookup t m k ok =>
    simp only [tOp, aOp]
    rw [hev m (by simp [Op.operands]), hev k (by simp [Op.operands])]
    exact Did.bind fun kt _ => Did.bind fun fl _ => Did.bind fun z hz => Did.val h (h.lookup fl (zeroOf_sh hz).1 _ _ _)
  case mapUpdate t m k x =>
    simp only [tOp, aOp]
    rw [hev m (by simp [Op.operands]), hev k (by simp [Op.operands]), hev x (by simp [Op.operands])]
    exact Did.bind fun kt _ => Did.bind fun fl _ => Did.heap _ sh_undef (h.update _ _ _ _)
  case extract t i =>
    simp only [tOp, aOp]
    rw [hev t (by simp [Op.operands])]
    exact Did.val h (sh_pExtract _ _)
  case call k =>
    obtain ⟨callee, args, ats⟩ := k
    have ha : args.toList.map ev' = shL g d (args.toList.map ev) := ev_map fun x hx => hev x (by simp only [Op.operands, Call.operands, Array.toList_append, List.mem_append]; exact .inr hx)
    cases callee with
    | builtin b =>
      simp only [tOp, aOp]
      rw [ha]
      exact builtin_did h _ _ _
    | value f =>
      simp only [tOp, aOp]
      rw [ha, hev f (by simp [Op.operands, Call.operands])]
      intro v E' hx
      obtain ⟨q, hq, hx⟩ := Option.bind_eq_some_iff.1 hx
      rw [sh_pCallee, hq]
      exact hc E H _ _ h v E' hx
    | invoke r m => exact Did.no
  all_goals exact Did.no
end
end Go.Proofs.YthagelbepgcolaaGreatDoor.Gst
/- Code and calls by the tree: what they come to there, they come to by the abstract run, in any heap that bears the same first blocks. -/
namespace Go.Proofs.YthagelbepgcolaaGreatDoor.Gst
open Go Go.RowKit
set_option linter.unusedSimpArgs false
set_option linter.unusedVariables false

def tEv (T : Tr Value) : Operand → Value
  | .tmp t => match T.get t with
    | some v => v
    | none => undef
  | .const v => v
  | .global g => .pointer (some ⟨g, 0, none⟩)
  | .func f => .func (.func f) #[] #[]
def tPut (m : Nat) (T : Tr Value) (dst : Option Tmp) (v : Value) : Option (Tr Value) :=
  match dst with
  | some j => match Nat.blt j m with
    | true => Tr.set v 24 T j
    | false => none
  | none => some T
def tYield (ops : Array Oper) (T : Tr Value) (j : Nat) : Option Bool :=
  match (ops[j]?).bind (·.dst) with
  | some t => match T.get t with
    | some (.bool b) => some b
    | _ => none
  | none => none
def tStep (P : Program) (G : List Nat) (call : TF) (ops : Array Oper) (m : Nat) (o : Oper) (T : Tr Value) (E : EH) : Option (Tr Value × EH) :=
  match o.op.operands.toList.all (okX G) with
  | true => match Region.wanted o (tYield ops T) with
    | true => (tOp P call (tEv T) o E).bind fun r => (tPut m T o.dst r.1).map fun T' => (T', r.2)
    | false => (tPut m T o.dst undef).map fun T' => (T', E)
  | false => none
def tOps (P : Program) (G : List Nat) (call : TF) (ops : Array Oper) (m : Nat) : List Oper → Tr Value → EH → List (Tr Value × EH) → Option (List (Tr Value × EH) × Tr Value × EH)
  | [], T, E, hist => some (hist ++ [(T, E)], T, E)
  | o :: rest, T, E, hist => (tStep P G call ops m o T E).bind fun r => tOps P G call ops m rest r.1 r.2 (hist ++ [(T, E)])
def tLook (P : Program) (G : List Nat) (hist : List (Tr Value × EH)) (ops : Array Oper) (p : Nat × Nat) : Bool :=
  match ops[p.1]?, hist[p.1]?, hist[if p.2 < p.1 then p.2 else p.2 + 1]? with
  | some o, some s, some s' => o.op.operands.toList.all (okX G) && eqO (tRd P (tEv s.1) o.op s'.2) (tRd P (tEv s.1) o.op s.2)
  | _, _, _ => false
def tRegion (P : Program) (G : List Nat) (call : TF) (ops : Array Oper) (m : Nat) (draw : Bool) (T : Tr Value) (E : EH) : Option (Tr Value × EH) :=
  match draw with
  | true => match regOK ops.toList with
    | true => (tOps P G call ops m ops.toList T E []).bind fun r => match (lookPairs ops.toList).all (tLook P G r.1 ops) with
      | true => some r.2
      | false => none
    | false => none
  | false => (tOps P G call ops m ops.toList T E []).map (·.2)
abbrev TR := AE × Tr Value × EH
def tIter (f : Tr Value → EH → Option TR) : Nat → Tr Value → EH → Option TR
  | 0, _, _ => none
  | n + 1, T, E => (f T E).bind fun r => match r.1 with
    | .normal => tIter f n r.2.1 r.2.2
    | _ => some r
def tCode (P : Program) (G : List Nat) (call : TF) (N m : Nat) : Code → Tr Value → EH → Option TR
  | .skip, T, E => some (.normal, T, E)
  | .label _, T, E => some (.normal, T, E)
  | .region _ ops draw, T, E => (tRegion P G call ops m draw T E).map fun s => (.normal, s.1, s.2)
  | .seq x y, T, E => (tCode P G call N m x T E).bind fun r => match r.1 with
    | .normal => tCode P G call N m y r.2.1 r.2.2
    | _ => some r
  | .cond c x y, T, E => match okX G c with
    | true => match tEv T c with
      | .bool true => tCode P G call N m x T E
      | .bool false => tCode P G call N m y T E
      | _ => none
    | false => none
  | .block id x, T, E => (tCode P G call N m x T E).map fun r => match r.1 with
    | .exit i => if i = id then (.normal, r.2.1, r.2.2) else r
    | _ => r
  | .loop x, T, E => tIter (tCode P G call N m x) N T E
  | .exit id, T, E => some (.exit id, T, E)
  | .ret, T, E => some (.ret, T, E)
  | _, _, _ => none
def tGet (T : Tr Value) (t : Nat) : Value := match T.get t with
  | some v => v
  | none => undef
def tResult (P : Program) (T : Tr Value) (E : EH) : ResultVar → Option Value
  | .tmp t => some (tGet T t)
  | .cell a t => (aggOf P t).bind fun g => match g with
    | some n => eLdN n (tGet T a) E
    | none => eLd1 (tGet T a) E
def tMany (P : Program) (T : Tr Value) (E : EH) : List ResultVar → Option (List Value)
  | [] => some []
  | r :: rs => (tResult P T E r).bind fun v => (tMany P T E rs).bind fun vs => some (v :: vs)
def tFin (P : Program) (rs : List ResultVar) (r : TR) : Option (Value × EH) :=
  match r.1 with
  | .exit _ => none
  | _ => (tMany P r.2.1 r.2.2 rs).map fun vs => (match vs with
    | [v] => v
    | vs => .tuple vs.toArray, r.2.2)
def tInit : List Value → Nat → Tr Value → Option (Tr Value)
  | [], _, T => some T
  | v :: vs, i, T => (Tr.set v 24 T i).bind fun T' => tInit vs (i + 1) T'
def tDefer (P : Program) (G : List Nat) (call : TF) (N n : Nat) (rs : List ResultVar) (s : DSh) (T : Tr Value) (E : EH) : Option (Value × EH) :=
  (tCode P G call N n s.c1 T E).bind fun r => match r.1 with
    | .normal => match Nat.blt s.t n with
      | true => (tStep P G call s.ops2 n s.om r.2.1 r.2.2).bind fun q => (tOps P G call s.ops3 n s.ops3.toList q.1 q.2 []).bind fun z => tFin P rs (.normal, z.2.1, z.2.2)
      | false => none
    | _ => none
/-- D: closures that do nothing where nothing panics. -/
def tCall (P : Program) (G D : List Nat) (N : Nat) : Nat → TF
  | 0 => fun _ _ _ => none
  | k + 1 => fun f args E => match P.funcs[f]? with
    | some fn => if fn.name = "runtime.NumGoroutine" then none else match fn.body with
      | some c => match Nat.ble args.length fn.ntmps with
        | true => (tInit args 0 .lf).bind fun T => match dshape c with
          | none => (tCode P G (tCall P G D N k) N fn.ntmps c T E).bind (tFin P fn.results.toList)
          | some s => match D.contains s.k with
            | true => tDefer P G (tCall P G D N k) N fn.ntmps fn.results.toList s T E
            | false => none
        | false => none
      | none => none
    | none => none

section
variable {P : Program} {G : List Nat} {g d m N : Nat} {F : List AObj}
structure ER (g d m : Nat) (T : Tr Value) (A : List Value) : Prop where
  len : A.length = m
  get : ∀ t, A[t]?.getD undef = shV g d (tGet T t)
theorem tGet_set {v : Value} {T T' : Tr Value} {j : Nat} (h : Tr.set v 24 T j = some T') (t : Nat) : tGet T' t = if t = j then v else tGet T t := by
  unfold tGet
  rw [Tr.get_set 24 h t]
  by_cases e : t = j
  · rw [if_pos e, if_pos e]
  · rw [if_neg e, if_neg e]
theorem ER.put {T T' : Tr Value} {A : List Value} (h : ER g d m T A) {dst : Option Tmp} {v : Value} (hp : tPut m T dst v = some T') : ER g d m T' (aPut A dst ((shV g d) v)) := by
  unfold tPut at hp
  cases dst with
  | none => cases hp; exact h
  | some j =>
    simp only at hp
    split at hp
    · rename_i hb
      have hj : j < m := Nat.le_of_ble_eq_true hb
      refine ⟨by simp [aPut, h.len], fun t => ?_⟩
      rw [tGet_set hp]
      simp only [aPut]
      rw [List.getElem?_set]
      by_cases e : t = j
      · rw [if_pos e, if_pos e.symm, if_pos (by rw [h.len]; omega)]; rfl
      · rw [if_neg e, if_neg (fun x => e x.symm)]; exact h.get t
    · cases hp
theorem ER.ev {T : Tr Value} {A : List Value} (h : ER g d m T A) (hG : ∀ b ∈ G, b < g) {x : Operand} (hx : okX G x = true) : aEv A x = (shV g d) (tEv T x) := by
  cases x with
  | tmp t => exact h.get t
  | const v => exact (sh_const hx).symm
  | global b =>
    simp only [okX, List.contains_iff_mem] at hx
    simp [aEv, tEv, shA, shB, hG b hx]
  | func f => simp [aEv, tEv]
theorem ER.yield {T : Tr Value} {A : List Value} (h : ER g d m T A) (ops : Array Oper) : aYield ops A = tYield ops T := by
  funext j
  unfold aYield tYield
  cases (ops[j]?).bind (·.dst) with
  | none => rfl
  | some t =>
    simp only [Option.bind_some]
    have hg := h.get t
    unfold tGet at hg
    cases hT : T.get t with
    | none =>
      rw [hT] at hg
      simp only [sh_undef] at hg
      cases hA : A[t]? with
      | none => rfl
      | some v => rw [hA] at hg; simp only [Option.getD_some] at hg; subst hg; rfl
    | some v =>
      rw [hT] at hg
      simp only at hg
      cases hA : A[t]? with
      | none => rw [hA] at hg; simp only [Option.getD_none] at hg; cases v <;> simp [undef] at hg ⊢
      | some w => rw [hA] at hg; simp only [Option.getD_some] at hg; subst hg; cases v <;> simp

structure St (g d m : Nat) (F : List AObj) (x : Tr Value × EH) (y : List Value × AH) : Prop where
  er : ER g d m x.1 y.1
  hr : HR g d F x.2 y.2
theorem step_did {c : TF} {c' : CallF} (hG : ∀ b ∈ G, b < g) (hc : CallDid g d F c c') {ops : Array Oper} {o : Oper} {T : Tr Value} {E : EH} {A : List Value} {H : AH} {r} (hS : St g d m F (T, E) (A, H)) (h : tStep P G c ops m o T E = some r) :
    ∃ r', aStep P G c' ops o A H = some r' ∧ St g d m F r r' := by
  unfold tStep at h
  unfold aStep
  split at h
  · rename_i hok
    rw [if_pos hok]
    have hev : ∀ x, x ∈ o.op.operands.toList → aEv A x = (shV g d) (tEv T x) := fun x hx => hS.er.ev hG (List.all_eq_true.1 hok x hx)
    rw [hS.er.yield]
    split at h
    · rename_i hw
      rw [if_pos hw]
      obtain ⟨⟨v, E1⟩, h1, h⟩ := Option.bind_eq_some_iff.1 h
      obtain ⟨T', h2, e⟩ := Option.map_eq_some_iff.1 h
      cases e
      obtain ⟨H', h3, h4⟩ := op_did hS.hr hc hev v E1 h1
      rw [h3]
      exact ⟨_, rfl, hS.er.put h2, h4⟩
    · rename_i hw
      rw [if_neg (by rw [hw]; simp)]
      obtain ⟨T', h2, e⟩ := Option.map_eq_some_iff.1 h
      cases e
      refine ⟨_, rfl, ?_, hS.hr⟩
      have := hS.er.put h2
      rwa [sh_undef] at this
  · cases h
theorem ops_did {c : TF} {c' : CallF} (hG : ∀ b ∈ G, b < g) (hc : CallDid g d F c c') {ops : Array Oper} : ∀ (l : List Oper) {T : Tr Value} {E : EH} {A : List Value} {H : AH} {hist r}, St g d m F (T, E) (A, H) → tOps P G c ops m l T E hist = some r →
    (∃ r', aOps P G c' ops l A H = some r' ∧ St g d m F r.2 r') ∧ ∃ t, r.1 = hist ++ t ∧ t.length = l.length + 1 ∧ ∀ i, i ≤ l.length → ∃ x y, t[i]? = some x ∧ aOps P G c' ops (l.take i) A H = some y ∧ St g d m F x y := by
  intro l
  induction l with
  | nil =>
    intro T E A H hist r hS h
    simp only [tOps] at h; cases h
    refine ⟨⟨_, rfl, hS⟩, [(T, E)], rfl, rfl, ?_⟩
    intro i hi
    have : i = 0 := by simpa using hi
    subst this
    exact ⟨_, _, rfl, rfl, hS⟩
  | cons o l ih =>
    intro T E A H hist r hS h
    simp only [tOps] at h
    obtain ⟨q, hq, h⟩ := Option.bind_eq_some_iff.1 h
    obtain ⟨⟨A1, H1⟩, h1, hS1⟩ := step_did hG hc hS hq
    obtain ⟨T1, E1⟩ := q
    obtain ⟨⟨r', h2, hS2⟩, t, e, hl, ht⟩ := ih hS1 h
    refine ⟨⟨r', by simp only [aOps, h1, Option.bind_some]; exact h2, hS2⟩, (T, E) :: t, by rw [e]; simp, by simp [hl], ?_⟩
    intro i hi
    cases i with
    | zero => exact ⟨_, _, rfl, rfl, hS⟩
    | succ i =>
      obtain ⟨x, y, hx, hy, hxy⟩ := ht i (by simpa using hi)
      exact ⟨x, y, by simpa using hx, by simp only [List.take_succ_cons, aOps, h1, Option.bind_some]; exact hy, hxy⟩
theorem region_did {c : TF} {c' : CallF} (hG : ∀ b ∈ G, b < g) (hc : CallDid g d F c c') {ops : Array Oper} {draw : Bool} {T : Tr Value} {E : EH} {A : List Value} {H : AH} {r} (hS : St g d m F (T, E) (A, H)) (h : tRegion P G c ops m draw T E = some r) :
    ∃ r', aRegion P G c' ops draw A H = some r' ∧ St g d m F r r' := by
  cases draw with
  | false =>
    simp only [tRegion, aRegion] at h ⊢
    obtain ⟨q, hq, e⟩ := Option.map_eq_some_iff.1 h
    subst e
    exact (ops_did hG hc _ hS hq).1
  | true =>
    simp only [tRegion, aRegion] at h ⊢
    split at h
    · rename_i hreg
      obtain ⟨q, hq, h⟩ := Option.bind_eq_some_iff.1 h
      split at h
      · rename_i hall
        cases h
        obtain ⟨⟨r', h1, h2⟩, t, e, hl, ht⟩ := ops_did hG hc _ hS hq
        refine ⟨r', ?_, h2⟩
        unfold aDraw
        rw [hreg]
        simp only
        cases hp : lookPairs ops.toList with
        | nil => exact h1
        | cons p ps =>
          simp only
          rw [chk_true ?_]
          · exact h1
          · rw [← hp]
            intro p hpm o ho
            have hx := List.all_eq_true.1 hall p hpm
            unfold tLook at hx
            rw [ho] at hx
            simp only [List.nil_append] at e
            have st : ∀ i x, q.1[i]? = some x → St g d m F x (stA P G c' ops A H i) := by
              intro i x hs
              have hi : i < t.length := by rw [e] at hs; exact (List.getElem?_eq_some_iff.1 hs).1
              obtain ⟨x', y, hx', hy, hxy⟩ := ht i (by omega)
              rw [e, hx'] at hs
              cases hs
              unfold stA
              rw [hy]
              exact hxy
            split at hx
            · rename_i o' x1 x2 ho' hs hs'
              cases ho'
              simp only [Bool.and_eq_true] at hx
              have hev : ∀ x, x ∈ o.op.operands.toList → aEv (stA P G c' ops A H p.1).1 x = (shV g d) (tEv x1.1 x) := fun x hxm => (st _ _ hs).er.ev hG (List.all_eq_true.1 hx.1 x hxm)
              rw [rd_sh (st _ _ hs').hr hev, rd_sh (st _ _ hs).hr hev, eqO_sound hx.2]
            · cases hx
      · cases h
    · cases h
structure Ar (g d m : Nat) (F : List AObj) (x : TR) (y : AR) : Prop where
  e : x.1 = y.1
  st : St g d m F x.2 y.2
theorem code_did {c : TF} {c' : CallF} (hG : ∀ b ∈ G, b < g) (hc : CallDid g d F c c') : ∀ (k : Code) {T : Tr Value} {E : EH} {A : List Value} {H : AH} {r : TR}, St g d m F (T, E) (A, H) → tCode P G c N m k T E = some r →
    ∃ r', aCode P G c' k A H = some r' ∧ Ar g d m F r r' := by
  intro k
  induction k with
  | region id ops draw =>
    intro T E A H r hS hr
    simp only [tCode, aCode] at hr ⊢
    obtain ⟨q, hq, e⟩ := Option.map_eq_some_iff.1 hr
    obtain ⟨r', h1, h2⟩ := region_did hG hc hS hq
    subst e
    rw [h1]
    exact ⟨_, rfl, rfl, h2⟩
  | seq x y ihx ihy =>
    intro T E A H r hS hr
    simp only [tCode, aCode] at hr ⊢
    obtain ⟨⟨e, T1, E1⟩, hx, hr⟩ := Option.bind_eq_some_iff.1 hr
    obtain ⟨⟨e', A1, H1⟩, h1, h2⟩ := ihx hS hx
    have he : e = e' := h2.e
    subst he
    rw [h1]
    simp only [Option.bind_some]
    cases e with
    | normal => exact ihy h2.st hr
    | exit i => cases hr; exact ⟨_, rfl, h2⟩
    | ret => cases hr; exact ⟨_, rfl, h2⟩
  | cond b x y ihx ihy =>
    intro T E A H r hS hr
    simp only [tCode, aCode] at hr ⊢
    split at hr
    · rename_i hok
      rw [hS.er.ev hG hok]
      split at hr
      · rename_i e; rw [e]; simp only [sh_bool]; exact ihx hS hr
      · rename_i e; rw [e]; simp only [sh_bool]; exact ihy hS hr
      · cases hr
    · cases hr
  | block id x ih =>
    intro T E A H r hS hr
    simp only [tCode, aCode] at hr ⊢
    obtain ⟨⟨e, T1, E1⟩, hx, hr⟩ := Option.map_eq_some_iff.1 hr
    obtain ⟨⟨e', A1, H1⟩, h1, h2⟩ := ih hS hx
    have he : e = e' := h2.e
    subst he
    rw [h1]
    subst hr
    cases e with
    | normal => exact ⟨_, rfl, h2⟩
    | exit i =>
      simp only [Option.map_some]
      by_cases hi : i = id
      · rw [if_pos hi, if_pos hi]; exact ⟨_, rfl, rfl, h2.st⟩
      · rw [if_neg hi, if_neg hi]; exact ⟨_, rfl, h2⟩
    | ret => exact ⟨_, rfl, h2⟩
  | loop x ih =>
    intro T E A H r hS hr
    simp only [tCode, aCode] at hr ⊢
    suffices key : ∀ n T E A H, St g d m F (T, E) (A, H) → tIter (tCode P G c N m x) n T E = some r → ∃ r', aIter (aCode P G c' x) n A H = some r' ∧ Ar g d m F r r' from by
      obtain ⟨r', h1, h2⟩ := key N T E A H hS hr
      exact ⟨r', aLoop_iff.2 ⟨N, h1⟩, h2⟩
    clear hr hS
    intro n
    induction n with
    | zero => intro T E A H hS hr; cases hr
    | succ n ihn =>
      intro T E A H hS hr
      simp only [tIter, aIter] at hr ⊢
      obtain ⟨⟨e, T1, E1⟩, hx, hr⟩ := Option.bind_eq_some_iff.1 hr
      obtain ⟨⟨e', A1, H1⟩, h1, h2⟩ := ih hS hx
      have he : e = e' := h2.e
      subst he
      rw [h1]
      simp only [Option.bind_some]
      cases e with
      | normal => exact ihn _ _ _ _ h2.st hr
      | exit i => cases hr; exact ⟨_, rfl, h2⟩
      | ret => cases hr; exact ⟨_, rfl, h2⟩
  | skip => intro T E A H r hS hr; simp only [tCode] at hr; cases hr; exact ⟨_, rfl, rfl, hS⟩
  | label l => intro T E A H r hS hr; simp only [tCode] at hr; cases hr; exact ⟨_, rfl, rfl, hS⟩
  | exit i => intro T E A H r hS hr; simp only [tCode] at hr; cases hr; exact ⟨_, rfl, rfl, hS⟩
  | ret => intro T E A H r hS hr; simp only [tCode] at hr; cases hr; exact ⟨_, rfl, rfl, hS⟩
  | _ => intro T E A H r hS hr; cases hr
theorem result_did {T : Tr Value} {E : EH} {A : List Value} {H : AH} (hS : St g d m F (T, E) (A, H)) (r : ResultVar) : aResult P A H r = (tResult P T E r).map (shV g d) := by
  cases r with
  | tmp t => simp only [aResult, tResult, Option.map_some]; rw [hS.er.get t]
  | cell a t =>
    simp only [aResult, tResult]
    rw [hS.er.get a]
    cases aggOf P t with
    | none => rfl
    | some n => cases n with
      | none => exact hS.hr.ld1 _
      | some n => exact hS.hr.ldN _ _
theorem many_did {T : Tr Value} {E : EH} {A : List Value} {H : AH} (hS : St g d m F (T, E) (A, H)) : ∀ rs : List ResultVar, aMany P A H rs = (tMany P T E rs).map (shL g d) := by
  intro rs
  induction rs with
  | nil => rfl
  | cons r rs ih =>
    simp only [aMany, tMany]
    rw [result_did hS, ih]
    cases tResult P T E r with
    | none => rfl
    | some v => cases tMany P T E rs <;> rfl
theorem fin_did {rs : List ResultVar} {x : TR} {y : AR} (h : Ar g d m F x y) : Did g d F (tFin P rs x) (aFin P rs y) := by
  intro v E' hx
  obtain ⟨e, T, E⟩ := x
  obtain ⟨e', A, H⟩ := y
  have he : e = e' := h.e
  subst he
  have hS := h.st
  have hm := many_did (P := P) hS rs
  have key : ∀ vs, tMany P T E rs = some vs → aResults P A H rs = some ((shV g d) (match vs with | [v] => v | vs => .tuple vs.toArray)) := by
    intro vs hvs
    unfold aResults
    rw [hm, hvs]
    simp only [Option.map_some]
    congr 1
    match vs with
    | [] => simp [shL]
    | [v] => rfl
    | v :: w :: vs => simp [shL]
  cases e with
  | exit i => cases hx
  | normal =>
    simp only [tFin, aFin] at hx ⊢
    obtain ⟨vs, hvs, e⟩ := Option.map_eq_some_iff.1 hx
    cases e
    rw [key vs hvs]
    exact ⟨H, rfl, hS.hr⟩
  | ret =>
    simp only [tFin, aFin] at hx ⊢
    obtain ⟨vs, hvs, e⟩ := Option.map_eq_some_iff.1 hx
    cases e
    rw [key vs hvs]
    exact ⟨H, rfl, hS.hr⟩
theorem init_get : ∀ (vs : List Value) (i : Nat) (T : Tr Value) {T' : Tr Value}, tInit vs i T = some T' → ∀ t, tGet T' t = if i ≤ t ∧ t < i + vs.length then (vs[t - i]?).getD undef else tGet T t := by
  intro vs
  induction vs with
  | nil => intro i T T' h t; simp only [tInit] at h; cases h; rw [if_neg (by simp only [List.length_nil]; omega)]
  | cons v vs ih =>
    intro i T T' h t
    simp only [tInit] at h
    obtain ⟨T1, h1, h⟩ := Option.bind_eq_some_iff.1 h
    rw [ih _ _ h t, tGet_set h1]
    by_cases e1 : i + 1 ≤ t ∧ t < i + 1 + vs.length
    · rw [if_pos e1, if_pos (by simp; omega)]
      rw [show t - i = (t - (i + 1)) + 1 from by omega, List.getElem?_cons_succ]
    · rw [if_neg e1]
      by_cases e2 : t = i
      · subst e2; rw [if_pos rfl, if_pos (by simp)]; simp
      · rw [if_neg e2, if_neg (by simp; omega)]
theorem call_did {D : List Nat} (hG : ∀ b ∈ G, b < g) (hD : ∀ k ∈ D, Harmless P k) : ∀ k, CallDid g d F (tCall P G D N k) (aCall P G k) := by
  intro k
  induction k with
  | zero => intro E H f args hR v E' h; cases h
  | succ k ih =>
    intro E H f args hR v E' h
    rw [tCall] at h
    rw [aCall]
    simp only [] at h ⊢
    cases hf : P.funcs[f]? with
    | none => rw [hf] at h; cases h
    | some fn =>
      rw [hf] at h
      simp only at h ⊢
      split at h
      · cases h
      · rename_i hn
        rw [if_neg hn]
        cases hb : fn.body with
        | none => rw [hb] at h; cases h
        | some c =>
          rw [hb] at h
          simp only at h ⊢
          split at h
          · rename_i hle
            have hle := Nat.le_of_ble_eq_true hle
            obtain ⟨T, hT, h⟩ := Option.bind_eq_some_iff.1 h
            have hS : St g d fn.ntmps F (T, E) (shL g d args ++ List.replicate (fn.ntmps - (shL g d args).length) undef, H) := by
              refine ⟨⟨by simp; omega, fun t => ?_⟩, hR⟩
              rw [init_get _ _ _ hT]
              simp only [shL, List.getElem?_append, List.length_map, List.getElem?_map, List.getElem?_replicate]
              by_cases e : t < args.length
              · rw [if_pos (show 0 ≤ t ∧ t < 0 + args.length from by omega), if_pos e]
                simp [List.getElem?_eq_getElem e]
              · rw [if_neg (show ¬ (0 ≤ t ∧ t < 0 + args.length) from by omega), if_neg e]
                have : tGet .lf t = undef := rfl
                rw [this, sh_undef]
                split <;> rfl
            cases hd : dshape c with
            | none =>
              rw [hd] at h
              obtain ⟨r, hr, h⟩ := Option.bind_eq_some_iff.1 h
              obtain ⟨r', h1, h2⟩ := code_did hG ih c hS hr
              simp only
              unfold aBody
              rw [h1]
              exact fin_did h2 v E' h
            | some q =>
              rw [hd] at h
              simp only at h ⊢
              split at h
              · rename_i hin
                rw [chk_true (hD _ (by simpa using hin))]
                unfold tDefer at h
                unfold aDefer
                obtain ⟨⟨e1, T1, E1⟩, hr, h⟩ := Option.bind_eq_some_iff.1 h
                obtain ⟨⟨e2, A1, H1⟩, h1, h2⟩ := code_did hG ih q.c1 hS hr
                have he : e1 = e2 := h2.e
                subst he
                rw [h1]
                simp only [Option.bind_some]
                cases e1 with
                | exit i => cases h
                | ret => cases h
                | normal =>
                  simp only at h ⊢
                  split at h
                  · rename_i hlt
                    have hlt : q.t < fn.ntmps := Nat.le_of_ble_eq_true hlt
                    have hlen : A1.length = fn.ntmps := h2.st.er.len
                    rw [if_neg (by omega)]
                    obtain ⟨⟨T2, E2⟩, h3, h⟩ := Option.bind_eq_some_iff.1 h
                    obtain ⟨⟨A2, H2⟩, h4, h5⟩ := step_did hG ih h2.st h3
                    obtain ⟨z, h6, h⟩ := Option.bind_eq_some_iff.1 h
                    obtain ⟨⟨⟨A3, H3⟩, h7, h8⟩, _⟩ := ops_did hG ih _ h5 h6
                    rw [h4]
                    simp only [Option.bind_some]
                    rw [h7]
                    exact fin_did (x := (.normal, z.2.1, z.2.2)) (y := (.normal, A3, H3)) ⟨rfl, h8⟩ v E' h
                  · cases h
              · cases h
          · cases h

/-! ### A closed call -/
/-- The tree of a heap. -/
def treeOf : List AObj → Nat → Tr AObj → Option (Tr AObj)
  | [], _, t => some t
  | o :: os, i, t => (Tr.set o 24 t i).bind fun t' => treeOf os (i + 1) t'
end
end Go.Proofs.YthagelbepgcolaaGreatDoor.Gst
/- A closed call that the kernel has done on the laid table alone, done in any heap whose first block is that table. -/
namespace Go.Proofs.YthagelbepgcolaaGreatDoor.Gst
open Go Go.RowKit
set_option linter.unusedSimpArgs false
set_option linter.unusedVariables false

/-- It told true, and the table is as it was. -/
def okRun (tab : List Value) : Option (Value × EH) → Bool
  | some (.bool true, E) => match E.get 0 with
    | some (.cells true cs) => eqVs (eqV 0) cs tab
    | _ => false
  | _ => false
def tabE (tab : List Value) : EH := ⟨1, .nd (some (.cells true tab)) .lf .lf⟩
end Go.Proofs.YthagelbepgcolaaGreatDoor.Gst
/- The closure that recovers: where nothing panics it changes nothing. -/
namespace Go.Proofs.YthagelbepgcolaaGreatDoor.Gst
open Go Go.RowKit
set_option linter.unusedSimpArgs false
set_option linter.unusedVariables false
set_option maxHeartbeats 4000000

theorem wpS_value {P : Program} {ops : Array Oper} {Q : Exit → Act → List Frame → World → Prop} {i : Nat} {rest : List Nat} {a : Act} {cs : List Frame} {w : World} {o : Oper} {v : Value} (ho : ops[i]? = some o) (hg : o.guard = none)
    (hr : (execOp a.eval o).run P w = .ok (.value v) w) (h : wpOpsS P ops Q rest (a.put o.dst v) cs w) : wpOpsS P ops Q (i :: rest) a cs w := by
  simp only [wpOpsS, ho]
  rw [if_pos (by simp [Region.wanted, hg]), hr]
  exact h
theorem wpS_rec {P : Program} {ops : Array Oper} {Q : Exit → Act → List Frame → World → Prop} {i : Nat} {rest : List Nat} {a : Act} {cs : List Frame} {w : World} {o : Oper} (ho : ops[i]? = some o) (hg : o.guard = none)
    (hr : (execOp a.eval o).run P w = .ok .recover w) (hc : recoverD cs = none) (h : wpOpsS P ops Q rest (a.put o.dst .nilIface) cs w) : wpOpsS P ops Q (i :: rest) a cs w := by
  simp only [wpOpsS, ho]
  rw [if_pos (by simp [Region.wanted, hg]), hr]
  simp only [hc]
  exact h
theorem ev_same {a : Act} {d : Tmp} {v : Value} (h : d < a.tmps.size) : (a.put (some d) v).eval (.tmp d) = v := by simp [Act.put, Act.eval, h]
theorem ev_ne {a : Act} {d t : Tmp} {v : Value} (h : t ≠ d) : (a.put (some d) v).eval (.tmp t) = a.eval (.tmp t) := by
  simp [Act.put, Act.eval, Array.getD_eq_getD_getElem?, Array.getElem?_setIfInBounds, h.symm]
theorem size_put {a : Act} {d : Option Tmp} {v : Value} : (a.put d v).tmps.size = a.tmps.size := by cases d <;> simp [Act.put]
theorem defers_put {a : Act} {d : Option Tmp} {v : Value} : (a.put d v).defers = a.defers := by cases d <;> rfl
section
variable {P : Program} {w : World} {ev : Operand → Value} {d : Option Tmp} {x : Operand} {v a b : Value} {y : TypeId} {p : String} {e : Array Edge} {gd : Option (Nat × Bool)}
theorem x_move (h : ev x = v) : (execOp ev ⟨d, .move x, y, p, e, gd⟩).run P w = .ok (.value v) w := by simp [execOp, h]
theorem x_assign (h : ev x = v) : (execOp ev ⟨d, .assign x, y, p, e, gd⟩).run P w = .ok (.value v) w := by simp [execOp, h]
theorem x_ext0 (h : ev x = .tuple #[a, b]) : (execOp ev ⟨d, .extract x 0, y, p, e, gd⟩).run P w = .ok (.value a) w := by simp [execOp, h, Instr.extract]
theorem x_ext1 (h : ev x = .tuple #[a, b]) : (execOp ev ⟨d, .extract x 1, y, p, e, gd⟩).run P w = .ok (.value b) w := by simp [execOp, h, Instr.extract]
end
theorem harmless_of {P : Program} {k : Nat} {fn : Func} (hf : P.funcs[k]? = some fn) (hn : fn.name ≠ "runtime.NumGoroutine") (hr : fn.results = #[]) (hnt : 10 ≤ fn.ntmps)
    {i1 i2 : Nat} {a1 : Array TypeId} {y1 y2 y3 y4 y5 y6 y7 y8 : TypeId} {p1 p2 p3 p4 p5 p6 p7 p8 : String} {e1 e2 e3 e4 e5 e6 e7 e8 : Array Edge} {xt at' : TypeId} {x : Code} {z : Value}
    (hb : fn.body = some (.seq (.region i1 #[⟨some 4, .call ⟨.builtin .recover, #[], a1⟩, y1, p1, e1, none⟩, ⟨some 5, .typeAssert (.tmp 4) xt at' true, y2, p2, e2, none⟩, ⟨some 3, .move (.tmp 5), y3, p3, e3, none⟩,
      ⟨some 6, .extract (.tmp 3) 0, y4, p4, e4, none⟩, ⟨some 7, .extract (.tmp 3) 1, y5, p5, e5, none⟩, ⟨some 1, .assign (.tmp 6), y6, p6, e6, none⟩, ⟨some 2, .assign (.tmp 7), y7, p7, e7, none⟩] false)
      (.seq (.region i2 #[⟨some 8, .move (.tmp 2), y8, p8, e8, none⟩] false) (.cond (.tmp 8) x .skip))))
    (hz : ∀ w, (Instr.typeAssert .nilIface xt at' true).run P w = .ok (.tuple #[z, .bool false]) w) : Harmless P k := by
  refine ⟨⟨fn, hf, by rw [hb]; rfl, hn⟩, fun args w => callsD_of_wpS hf hb fun c0 cs hm => ?_⟩
  have hsz : 10 ≤ (args ++ Array.replicate (fn.ntmps - args.size) undef).size := by simp; omega
  generalize args ++ Array.replicate (fn.ntmps - args.size) undef = T at hsz
  refine wpS_seq (wpS_region ?_)
  have hs : ∀ a : Act, a.tmps.size = T.size → ∀ j, j < 10 → j < a.tmps.size := fun a h j hj => by omega
  have hrec : recoverD (c0 :: cs) = none := by simp [recoverD, hm]
  have rng : List.range (7 : Nat) = [0, 1, 2, 3, 4, 5, 6] := rfl
  have rng1 : List.range (1 : Nat) = [0] := rfl
  have h4 : 4 < T.size := by omega
  have h4 : 4 < T.size := by omega
  simp only [List.size_toArray, List.length_cons, List.length_nil, Nat.zero_add, Nat.reduceAdd, rng]
  refine wpS_rec (o := ⟨some 4, .call ⟨.builtin .recover, #[], a1⟩, y1, p1, e1, none⟩) rfl rfl rfl hrec ?_
  refine wpS_value (o := ⟨some 5, .typeAssert (.tmp 4) xt at' true, y2, p2, e2, none⟩) (v := .tuple #[z, .bool false]) rfl rfl ?_ ?_
  · have e : (({ tmps := T, defers := [] } : Act).put (some 4) .nilIface).eval (.tmp 4) = .nilIface := ev_same h4
    simp only [execOp, e, Sem.run_bind, hz, Result.andThen_ok, Sem.run_pure]
  refine wpS_value (o := ⟨some 3, .move (.tmp 5), y3, p3, e3, none⟩) (v := .tuple #[z, .bool false]) rfl rfl ?_ ?_
  · exact x_move (ev_same (hs _ (by simp only [size_put]) 5 (by omega)))
  refine wpS_value (o := ⟨some 6, .extract (.tmp 3) 0, y4, p4, e4, none⟩) (v := z) rfl rfl ?_ ?_
  · exact x_ext0 (ev_same (hs _ (by simp only [size_put]) 3 (by omega)))
  refine wpS_value (o := ⟨some 7, .extract (.tmp 3) 1, y5, p5, e5, none⟩) (v := .bool false) rfl rfl ?_ ?_
  · exact x_ext1 ((ev_ne (by decide)).trans (ev_same (hs _ (by simp only [size_put]) 3 (by omega))))
  refine wpS_value (o := ⟨some 1, .assign (.tmp 6), y6, p6, e6, none⟩) (v := z) rfl rfl ?_ ?_
  · exact x_assign ((ev_ne (by decide)).trans (ev_same (hs _ (by simp only [size_put]) 6 (by omega))))
  refine wpS_value (o := ⟨some 2, .assign (.tmp 7), y7, p7, e7, none⟩) (v := .bool false) rfl rfl ?_ ?_
  · exact x_assign ((ev_ne (by decide)).trans (ev_same (hs _ (by simp only [size_put]) 7 (by omega))))
  show (Code.seq _ _).wpS P _ _ _ _
  refine wpS_seq (wpS_region ?_)
  simp only [List.size_toArray, List.length_cons, List.length_nil, Nat.zero_add, rng1]
  refine wpS_value (o := ⟨some 8, .move (.tmp 2), y8, p8, e8, none⟩) (v := .bool false) rfl rfl ?_ ?_
  · exact x_move (ev_same (hs _ (by simp only [size_put]) 2 (by omega)))
  show (Code.cond _ _ _).wpS P _ _ _ _
  refine wpS_cond (t := false) (ev_same (hs _ (by simp only [size_put]) 8 (by omega))) ?_
  simp only [Bool.false_eq_true, if_false]
  refine wpS_of_wp (wp_skip ?_)
  refine ⟨by simp only [defers_put], .returning, by rw [← hm], .tuple #[], ?_, ⟨_, rfl⟩, rfl, rfl⟩
  simp [results, hr]
end Go.Proofs.YthagelbepgcolaaGreatDoor.Gst
