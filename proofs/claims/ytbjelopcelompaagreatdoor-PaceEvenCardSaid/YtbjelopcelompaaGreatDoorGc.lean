/- The abstract run: what each operation does to the abstract heap; then regions, code, calls. No tape, no capacities. -/
import Derived.Test.YtbjelopcelompaaGreatDoorGa
namespace Go.Proofs.YtbjelopcelompaaGreatDoor.Gst
open Go Go.RowKit

/-! ### Of the program's types -/
def szOf (P : Program) (t : TypeId) : Option Nat := (P.info? t).map (·.size)
/-- How many cells an aggregate has; 'some none': a type of one cell. -/
def aggOf (P : Program) (t : TypeId) : Option (Option Nat) :=
  match P.underlying t with
  | some (.struct _) | some (.array _ _) => (szOf P t).map some
  | some _ => some none
  | none => none
def zeroOf (P : Program) (t : TypeId) : Option Value :=
  match P.info? t with
  | some i => match i.zero with
    | some z => if z.cells.toList.all litV = true ∧ constV z = true then some z else none
    | none => none
  | none => none
def fieldOf (P : Program) (t : TypeId) (f : Nat) : Option Field :=
  match P.underlying t with
  | some (.struct fs) => fs[f]?
  | _ => none
def elemOf' (P : Program) (t : TypeId) : Option TypeId :=
  match P.underlying t with
  | some (.slice e) => some e
  | _ => none
def bytesOf' (P : Program) (t : TypeId) : Option Nat := (P.info? t).map (·.bytes)
/-- A struct of whole numbers, and of such structs, one cell behind the other: how many. -/
def flatStep (P : Program) (sub : List Field → Option Nat) : Nat → List Field → Option Nat
  | n, [] => some n
  | n, f :: fs => if f.name ≠ "_" ∧ f.offset = n then (match P.underlying f.type with
    | some (.int _) => flatStep P sub (n + 1) fs
    | some (.struct gs) => (match sub gs.toList with
      | some k => if szOf P f.type = some k ∧ P.stoodInHeld f.type = false then flatStep P sub (n + k) fs else none
      | none => none)
    | _ => none) else none
def flatFields (P : Program) : Nat → Nat → List Field → Option Nat
  | 0 => flatStep P fun _ => none
  | e + 1 => flatStep P (flatFields P e 0)
def flatOf (P : Program) (t : TypeId) : Option Nat :=
  match P.underlying t with
  | some (.struct fs) => if P.stoodInHeld t = false ∧ P.eqGuardType P.depth t = false then flatFields P 2 0 fs.toList else none
  | _ => none
def kindOf (P : Program) (t : TypeId) : Option IntKind :=
  match P.underlying t with
  | some (.int k) => some k
  | _ => none

/-! ### Operations -/
def pAt : Value → Option (Nat × Nat)
  | .pointer (some ⟨b, o, none⟩) => some (b, o)
  | _ => none
def pCells (H : AH) (b : Nat) : Option (List Value) :=
  match H.get b with
  | some (.cells _ cs) => some cs
  | _ => none
def pPick (c a b : Value) : Option Value :=
  match c with
  | .bool t => some (if t = true then a else b)
  | _ => none
def pNil : Value → Option Value
  | .pointer none | .nilIface | .nilFunc => none
  | .func (.method _) _ _ => none
  | v => some v
def pLd1 (v : Value) (H : AH) : Option Value := (pAt v).bind fun a => (pCells H a.1).bind fun cs => cs[a.2]?
def pLdN (n : Nat) (v : Value) (H : AH) : Option Value :=
  (pAt v).bind fun a => (pCells H a.1).bind fun cs => if a.2 + n ≤ cs.length then some (.agg ((cs.drop a.2).take n).toArray) else none
def splice (cs : List Value) (o : Nat) (xs : List Value) : List Value := cs.take o ++ xs ++ cs.drop (o + xs.length)
def pSt (n : Nat) (v x : Value) (H : AH) : Option AH :=
  (pAt v).bind fun a => match H.get a.1 with
    | some (.cells false cs) => if x.cells.size = n ∧ a.2 + n ≤ cs.length ∧ x.cells.toList.all Value.oneCell' = true then some (H.set a.1 (.cells false (splice cs a.2 x.cells.toList))) else none
    | _ => none
def pNew (cs : List Value) (H : AH) : Value × AH := (.pointer (some ⟨H.size, 0, none⟩), H.push (.cells false cs))
def pFld (off : Nat) (v : Value) : Option Value := (pAt v).map fun a => .pointer (some ⟨a.1, a.2 + off, none⟩)
def pPart (n : Option Nat) (off : Nat) (v : Value) : Option Value :=
  match v with
  | .agg cs => match n with
    | some n => some (.agg (cs.extract off (off + n)))
    | none => cs[off]?
  | _ => none
def pIdx (e : Nat) (v i : Value) : Option Value :=
  match v, i with
  | .slice (some ⟨b, o, none⟩) n _, .int _ i => if 0 ≤ i ∧ i < n then some (.pointer (some ⟨b, o + i.toNat * e, none⟩)) else none
  | _, _ => none
def pIdxA (len e : Nat) (v i : Value) : Option Value :=
  match v, i with
  | .pointer (some ⟨b, o, none⟩), .int _ i => if 0 ≤ i ∧ i < len then some (.pointer (some ⟨b, o + i.toNat * e, none⟩)) else none
  | _, _ => none
def pIndexV (len : Nat) (n : Option Nat) (e : Nat) (v i : Value) : Option Value :=
  match v, i with
  | .agg cs, .int _ i => if 0 ≤ i ∧ i < len then (match n with | some n => some (.agg (cs.extract (i.toNat * e) (i.toNat * e + n))) | none => cs[i.toNat * e]?) else none
  | _, _ => none
def pIndexS (v i : Value) : Option Value :=
  match v, i with
  | .string s, .int _ i => if 0 ≤ i then (s[i.toNat]?).map fun b => .int .u8 b.toNat else none
  | _, _ => none
def pLen : Value → Option Value
  | .slice _ n _ => some (.int .i64 n)
  | .string s => some (.int .i64 s.size)
  | _ => none
def pLenM (v : Value) (H : AH) : Option Value :=
  match v with
  | .map none => some (.int .i64 0)
  | .map (some b) => match H.get b with
    | some (.map es _) => some (.int .i64 es.length)
    | _ => none
  | _ => none
def pMax : List Value → Option Value
  | [.int k x, .int _ y] => some (.int k (if y > x then y else x))
  | _ => none
def pMin : List Value → Option Value
  | [.int k x, .int _ y] => some (.int k (if y < x then y else x))
  | _ => none
/-- Are the whole numbers alike, one by one? none: they are of other kinds. -/
def eqCells : List Value → List Value → Option Bool
  | [], [] => some true
  | .int k a :: xs, .int k' b :: ys => if k = k' then (eqCells xs ys).map fun r => a == b && r else none
  | _, _ => none
def pInt (op : BinOp) (k : IntKind) (a b : Int) : Option Value :=
  match op with
  | .add => some (.int k (k.wrap (a + b)))
  | .sub => some (.int k (k.wrap (a - b)))
  | .mul => some (.int k (k.wrap (a * b)))
  | .quo => if b = 0 then none else some (.int k (k.wrap (a.tdiv b)))
  | .rem => if b = 0 then none else some (.int k (a.tmod b))
  | .and => some (.int k (Go.bits .and k a b))
  | .or => some (.int k (Go.bits .or k a b))
  | .xor => some (.int k (Go.bits .xor k a b))
  | .andNot => some (.int k (Go.bits .andNot k a b))
  | .eql => some (.bool (a == b))
  | .neq => some (.bool (a != b))
  | .lss => some (.bool (decide (a < b)))
  | .leq => some (.bool (decide (a ≤ b)))
  | .gtr => some (.bool (decide (a > b)))
  | .geq => some (.bool (decide (a ≥ b)))
  | _ => none
def pShift (op : BinOp) (k : IntKind) (a b : Int) : Option Value :=
  if b < 0 then none else
  match op with
  | .shl => some (.int k (k.wrap (a * 2 ^ min b.toNat k.bits)))
  | .shr => some (.int k (a.fdiv (2 ^ min b.toNat k.bits)))
  | _ => none
/-- What kind of type it is, as far as '==' asks. -/
inductive TCls where
  | bool | ptr | slice | map | func | flat (n : Nat) | other
def clsOf (P : Program) (t : TypeId) : TCls :=
  match P.underlying t with
  | some .bool => .bool
  | some (.pointer _) => .ptr
  | some (.slice _) => .slice
  | some (.map _ _) => .map
  | some (.func _ _ _) => .func
  | some (.struct _) => match flatOf P t with
    | some n => .flat n
    | none => .other
  | _ => .other
def pEq (cl : TCls) (x y : Value) : Option Bool :=
  match cl, x, y with
  | .bool, .bool a, .bool b => some (a == b)
  | .flat n, .agg a, .agg b => if a.size = n ∧ b.size = n then eqCells a.toList b.toList else none
  | .ptr, .pointer a, .pointer none => some a.isNone
  | .ptr, .pointer none, .pointer (some _) => some false
  | .slice, .slice a _ _, .slice none _ _ => some a.isNone
  | .slice, .slice none _ _, .slice (some _) _ _ => some false
  | .map, .map a, .map none => some a.isNone
  | .map, .map none, .map (some _) => some false
  | .func, .func _ _ _, .nilFunc => some false
  | .func, .nilFunc, .func _ _ _ => some false
  | .func, .nilFunc, .nilFunc => some true
  | _, _, _ => none
def pStr (op : BinOp) (a b : ByteArray) : Option Value :=
  match op with
  | .eql => some (.bool (a == b))
  | .neq => some (.bool !(a == b))
  | _ => none
def pEqOp (cl : TCls) (op : BinOp) (x y : Value) : Option Value :=
  match op with
  | .eql => (pEq cl x y).map fun b => .bool b
  | .neq => (pEq cl x y).map fun b => .bool !b
  | _ => none
def pBin (cl : TCls) (op : BinOp) (x y : Value) : Option Value :=
  match x, y with
  | .int k a, .int k' b =>
    match op with
    | .shl => pShift .shl k a b
    | .shr => pShift .shr k a b
    | op => if k = k' then pInt op k a b else none
  | .string a, .string b => pStr op a b
  | x, y => pEqOp cl op x y
def pUn (op : UnOp) (x : Value) : Option Value :=
  match op, x with
  | .neg, .int k n => some (.int k (k.wrap (0 - n)))
  | .xor, .int k n => some (.int k (Go.bits .xor k (if k.signed then -1 else k.max) n))
  | .not, .bool b => some (.bool !b)
  | _, _ => none
def pConv (k : Option IntKind) (x : Value) : Option Value :=
  match k, x with
  | some k, .int _ n => some (.int k (k.wrap n))
  | _, _ => none
def pExtract (v : Value) (i : Nat) : Option Value :=
  match v with
  | .tuple vs => vs[i]?
  | _ => none
def pInt? : Value → Option Int
  | .int _ n => some n
  | _ => none
/-- x[lo:hi] of a slice: its elements have e cells. -/
def pSlice (e : Nat) (x : Value) (lo hi : Option Value) : Option Value :=
  match x with
  | .slice a n e' =>
    (match lo with | some v => pInt? v | none => some 0).bind fun l => (match hi with | some v => pInt? v | none => some (n : Int)).bind fun h =>
      if 0 ≤ l ∧ l ≤ h ∧ h ≤ n then
        match a with
        | none => if n = 0 ∧ e' = 0 then some (.slice none 0 0) else none
        | some ⟨b, o, none⟩ => if e' = e ∧ 0 < e then some (.slice (some ⟨b, o + l.toNat * e, none⟩) (h.toNat - l.toNat) e) else none
        | _ => none
      else none
  | _ => none
/-- x[:0:0]: none of its room. -/
def pSlice0 (x : Value) (hi mx : Value) : Option Value :=
  match x, hi, mx with
  | .slice none 0 0, .int _ 0, .int _ 0 => some (.slice none 0 0)
  | .slice (some ⟨b, o, none⟩) _ _, .int _ 0, .int _ 0 => some (.slice (some ⟨b, o, none⟩) 0 0)
  | _, _, _ => none
def pRow (e : Nat) (x : Value) (H : AH) : Option (Nat × List Value) :=
  match x with
  | .slice none n _ => if n = 0 then some (0, []) else none
  | .slice (some ⟨b, o, none⟩) m _ => if m = 0 then some (0, []) else (pCells H b).bind fun cs => if o + m * e ≤ cs.length then some (m, (cs.drop o).take (m * e)) else none
  | _ => none
def room : Nat := 140737488355328
def pApp (e bytes : Nat) (s x : Value) (H : AH) : Option (Value × AH) :=
  (pRow e x H).bind fun r =>
    if r.2.all Value.oneCell' = true ∧ 0 < e then
      match s with
      | .slice none n k => if n = 0 ∧ k = 0 then (if r.1 = 0 then some (.slice none 0 0, H) else if r.1 * bytes ≤ room ∧ r.1 ≤ room then some (.slice (some ⟨H.size, 0, none⟩) r.1 e, H.push (.cells false r.2)) else none) else none
      | .slice (some ⟨b, o, none⟩) n e' =>
        if r.1 = 0 then some (s, H)
        else if e' = 0 then (if n = 0 ∧ r.1 * bytes ≤ room ∧ r.1 ≤ room then some (.slice (some ⟨H.size, 0, none⟩) r.1 e, H.push (.cells false r.2)) else none)
        else match H.get b with
          | some (.cells false cs) =>
            if e' = e ∧ o + n * e ≤ cs.length ∧ (n + r.1) * bytes ≤ room ∧ n + r.1 ≤ room then some (.slice (some ⟨H.size, 0, none⟩) (n + r.1) e, (H.set b .dead).push (.cells false ((cs.drop o).take (n * e) ++ r.2))) else none
          | _ => none
      | _ => none
    else none
def pMake (zero : List Value) (e bytes : Nat) (len cap : Value) (H : AH) : Option (Value × AH) :=
  match len, cap with
  | .int _ l, .int _ c => if 0 ≤ l ∧ l = c ∧ l.toNat * bytes ≤ room ∧ l.toNat ≤ room ∧ 0 < e ∧ zero.length = e then
      some (.slice (some ⟨H.size, 0, none⟩) l.toNat e, H.push (.cells false (List.replicate l.toNat zero).flatten)) else none
  | _, _ => none
/-- What a map's keys are. -/
inductive KCls where
  | int | string | flat (n : Nat)
def isIntV : Value → Bool
  | .int _ _ => true
  | _ => false
def keyOK (cl : KCls) (k : Value) : Bool :=
  match cl, k with
  | .int, .int _ _ => true
  | .string, .string _ => true
  | .flat n, .agg xs => xs.size == n && xs.toList.all isIntV
  | _, _ => false
def keyEq (cl : KCls) (a b : Value) : Option Bool :=
  match cl, a, b with
  | .int, .int k x, .int k' y => if k = k' then some (x == y) else none
  | .string, .string x, .string y => some (x == y)
  | .flat n, .agg x, .agg y => if x.size = n ∧ y.size = n then eqCells x.toList y.toList else none
  | _, _, _ => none
/-- Where a key stands. -/
def findKey' (cl : KCls) (k : Value) : List MapEntry → Nat → Option (Option (Nat × Value))
  | [], _ => some none
  | e :: es, i => (keyEq cl k e.key).bind fun b => if b = true then some (some (i, e.val)) else findKey' cl k es (i + 1)
def pMapOf (v : Value) (H : AH) : Option (List MapEntry × Nat) :=
  match v with
  | .map none => some ([], 0)
  | .map (some b) => match H.get b with
    | some (.map es c) => some (es, c)
    | _ => none
  | _ => none
def pLookup (fl : KCls) (zero : Value) (m k : Value) (ok : Bool) (H : AH) : Option Value :=
  if keyOK fl k = true then (pMapOf m H).bind fun es => (findKey' fl k es.1 0).map fun r => match r with
    | some (_, v) => if ok then .tuple #[v, .bool true] else v
    | none => if ok then .tuple #[zero, .bool false] else zero
  else none
def pUpdate (fl : KCls) (m k x : Value) (H : AH) : Option AH :=
  if keyOK fl k = true then match m with
  | .map (some b) => match H.get b with
    | some (.map es c) => (findKey' fl k es 0).map fun r => match r with
      | some (i, _) => H.set b (.map (es.modify i fun e => { e with key := k, val := x }) c)
      | none => H.set b (.map (es ++ [{ key := k, val := x, born := c }]) (c + 1))
    | _ => none
  | _ => none
  else none
def pDelete (fl : KCls) (m k : Value) (H : AH) : Option AH :=
  if keyOK fl k = true then match m with
  | .map (some b) => match H.get b with
    | some (.map es c) => (findKey' fl k es 0).map fun r => match r with
      | some (i, _) => H.set b (.map (es.eraseIdx i) c)
      | none => H.set b (.map es c)
    | _ => none
  | _ => none
  else none
/-- The parts laid into zeros: where each part's place begins, and its size. -/
def pFill (places : Nat → Option (Nat × Nat)) (zero : List Value) : List (Nat × Value) → Option (List Value)
  | [] => some zero
  | (i, v) :: rest => (places i).bind fun p => if v.cells.size = p.2 ∧ p.1 + p.2 ≤ zero.length then pFill places (splice zero p.1 v.cells.toList) rest else none
/-- How a function value is called. -/
def pCallee (v : Value) (args : List Value) : Option (Nat × List Value) :=
  match v with
  | .func (.func f) first captured => some (f, first.toList ++ args ++ captured.toList)
  | _ => none
def flatKey (P : Program) (t : TypeId) : Option KCls :=
  match P.underlying t with
  | some (.int _) => some .int
  | some .string => some .string
  | some (.struct _) => (flatOf P t).map .flat
  | _ => none
def mapTypes (P : Program) (t : TypeId) : Option (TypeId × TypeId) :=
  match P.underlying t with
  | some (.map k e) => some (k, e)
  | _ => none
def placesOf (P : Program) (fs : List Field) : Option (List (Nat × Nat)) := fs.mapM fun f => (szOf P f.type).map fun n => (f.offset, n)

abbrev CallF := Nat → List Value → AH → Option (Value × AH)

def aBuiltin (P : Program) (b : Builtin) (argTypes : Array TypeId) (args : List Value) (H : AH) : Option (Value × AH) :=
  match b, args with
  | .len, [x] => match (argTypes[0]?).bind fun t => P.underlying t with
    | some (.slice _) => match x with | .slice _ _ _ => (pLen x).map (·, H) | _ => none
    | some .string => match x with | .string _ => (pLen x).map (·, H) | _ => none
    | some (.map _ _) => (pLenM x H).map (·, H)
    | _ => none
  | .max, args => (pMax args).map (·, H)
  | .min, args => (pMin args).map (·, H)
  | .append, [s, x] => (argTypes[0]?).bind fun t => (elemOf' P t).bind fun el => (szOf P el).bind fun e => (bytesOf' P el).bind fun by' => (zeroOf P el).bind fun z =>
      if z.cells.size = e ∧ (argTypes[1]?).bind (fun u => elemOf' P u) = some el then pApp e by' s x H else none
  | .delete, [m, k] => (argTypes[0]?).bind fun t => (mapTypes P t).bind fun kt => (flatKey P kt.1).bind fun fl => (pDelete fl m k H).map fun H' => (.tuple #[], H')
  | _, _ => none

def aOp (P : Program) (call : CallF) (ev : Operand → Value) (o : Oper) (H : AH) : Option (Value × AH) :=
  match o.op with
  | .move x => some (ev x, H)
  | .assign x => some (ev x, H)
  | .pick c a b => (pPick (ev c) (ev a) (ev b)).map (·, H)
  | .alloc t => (zeroOf P t).map fun z => pNew z.cells.toList H
  | .box _ x => some (pNew (ev x).cells.toList H)
  | .build t parts => match P.underlying t with
    | some (.struct fs) => (zeroOf P t).bind fun z => (placesOf P fs.toList).bind fun ps => (pFill (ps[·]?) z.cells.toList (parts.toList.map fun p => (p.1, ev p.2))).map fun cs => (.agg cs.toArray, H)
    | some (.array _ el) => (zeroOf P t).bind fun z => (szOf P el).bind fun e => (pFill (fun i => some (i * e, e)) z.cells.toList (parts.toList.map fun p => (p.1, ev p.2))).map fun cs => (.agg cs.toArray, H)
    | _ => none
  | .buildSlice t len parts => (elemOf' P t).bind fun el => (szOf P el).bind fun e => (zeroOf P el).bind fun z =>
      if 0 < e ∧ z.cells.size = e ∧ len * e ≤ 2 ^ 24 then
        (pFill (fun i => some (i * e, e)) (List.replicate len z.cells.toList).flatten (parts.toList.map fun p => (p.1, ev p.2))).map fun cs => (.slice (some ⟨H.size, 0, none⟩) len e, H.push (.cells false cs))
      else none
  | .load t a => (aggOf P t).bind fun g => match g with
    | some n => (pLdN n (ev a) H).map (·, H)
    | none => (pLd1 (ev a) H).map (·, H)
  | .store t a x => (szOf P t).bind fun n => (pSt n (ev a) (ev x) H).map fun H' => (undef, H')
  | .nilCheck x => (pNil (ev x)).map (·, H)
  | .binOp op t x y _ => (pBin (clsOf P t) op (ev x) (ev y)).map (·, H)
  | .unOp op _ x => (pUn op (ev x)).map (·, H)
  | .convert src dst x => match P.underlying src with
    | some _ => (pConv (kindOf P dst) (ev x)).map (·, H)
    | none => none
  | .makeFunc fn first captured => some (.func fn (first.map ev) (captured.map ev), H)
  | .makeMap _ none => some (.map (some H.size), H.push (.map [] 0))
  | .makeSlice t l c => (elemOf' P t).bind fun el => (szOf P el).bind fun e => (bytesOf' P el).bind fun by' => (zeroOf P el).bind fun z => pMake z.cells.toList e by' (ev l) (ev c) H
  | .slice t x lo hi none => (elemOf' P t).bind fun el => (szOf P el).bind fun e => (pSlice e (ev x) (lo.map ev) (hi.map ev)).map (·, H)
  | .slice t x none (some hi) (some mx) => (elemOf' P t).bind fun el => (szOf P el).bind fun _ => (pSlice0 (ev x) (ev hi) (ev mx)).map (·, H)
  | .fieldAddr s x f => (fieldOf P s f).bind fun f => (szOf P f.type).bind fun n => if n = 0 then none else (pFld f.offset (ev x)).map (·, H)
  | .field s x f => (fieldOf P s f).bind fun f => (aggOf P f.type).bind fun n => (pPart n f.offset (ev x)).map (·, H)
  | .indexAddr t x i => match P.underlying t with
    | some (.slice el) => (szOf P el).bind fun e => (pIdx e (ev x) (ev i)).map (·, H)
    | some (.array len el) => (szOf P el).bind fun e => (pIdxA len e (ev x) (ev i)).map (·, H)
    | _ => none
  | .index t x i => match P.underlying t with
    | some (.array len el) => (szOf P el).bind fun e => (aggOf P el).bind fun n => (pIndexV len n e (ev x) (ev i)).map (·, H)
    | some .string => (pIndexS (ev x) (ev i)).map (·, H)
    | _ => none
  | .lookup t m k ok => (mapTypes P t).bind fun kt => (flatKey P kt.1).bind fun fl => (zeroOf P kt.2).bind fun z => (pLookup fl z (ev m) (ev k) ok H).map (·, H)
  | .mapUpdate t m k x => (mapTypes P t).bind fun kt => (flatKey P kt.1).bind fun fl => (pUpdate fl (ev m) (ev k) (ev x) H).map fun H' => (undef, H')
  | .extract t i => (pExtract (ev t) i).map (·, H)
  | .call c => match c.callee with
    | .builtin b => aBuiltin P b c.argTypes (c.args.toList.map ev) H
    | .value f => (pCallee (ev f) (c.args.toList.map ev)).bind fun fa => call fa.1 fa.2 H
    | _ => none
  | _ => none
end Go.Proofs.YtbjelopcelompaaGreatDoor.Gst
