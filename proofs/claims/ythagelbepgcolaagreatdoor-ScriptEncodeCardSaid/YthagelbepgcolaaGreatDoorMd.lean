/- The abstract run in a form that can be printed, function by function. -/
import Derived.Test.YthagelbepgcolaaGreatDoorMc
import Derived.KernelRfl
import Derived.Test.YthagelbepgcolaaGreatDoorRows
namespace Go.Proofs.YthagelbepgcolaaGreatDoor.Gst
open Go Go.RowKit
set_option linter.unusedSimpArgs false

section
variable {R : Type}

/-- What the types tell: it is not held against what the run tells. -/
abbrev tb {α β : Type} (x : Option α) (f : α → Option β) : Option β :=
  match x with
  | some a => f a
  | none => none
theorem tb_eq {α β : Type} (x : Option α) (f : α → Option β) : tb x f = x.bind f := by cases x <;> rfl
abbrev cBuiltin0 (P : Program) (b : Builtin) (argTypes : Array TypeId) (args : List Value) (H : AH) (k : Value → AH → Option R) : Option R :=
  match b, args with
  | .len, [x] => match (argTypes[0]?).bind fun t => P.underlying t with
    | some (.slice _) => match x with | .slice _ n _ => k (.int .i64 n) H | _ => none
    | some .string => match x with | .string s => k (.int .i64 s.size) H | _ => none
    | some (.map _ _) => (pLenM x H).bind fun v => k v H
    | _ => none
  | .max, args => (pMax args).bind fun v => k v H
  | .min, args => (pMin args).bind fun v => k v H
  | .append, [s, x] => (argTypes[0]?).bind fun t => (elemOf' P t).bind fun el => (szOf P el).bind fun e => (bytesOf' P el).bind fun by' => (zeroOf P el).bind fun z =>
      if z.cells.size = e ∧ (argTypes[1]?).bind (fun u => elemOf' P u) = some el then (pApp e by' s x H).bind fun r => k r.1 r.2 else none
  | .delete, [m, key] => (argTypes[0]?).bind fun t => (mapTypes P t).bind fun kt => (flatKey P kt.1).bind fun fl => (pDelete fl m key H).bind fun H' => k (.tuple #[]) H'
  | _, _ => none

abbrev cOp0 (P : Program) (call : CallF) (ev : Operand → Value) (o : Oper) (H : AH) (k : Value → AH → Option R) : Option R :=
  match o.op with
  | .move x => k (ev x) H
  | .assign x => k (ev x) H
  | .pick c a b => (pPick (ev c) (ev a) (ev b)).bind fun v => k v H
  | .alloc t => (zeroOf P t).bind fun z => k (.pointer (some ⟨H.size, 0, none⟩)) (H.push (.cells false z.cells.toList))
  | .box _ x => k (.pointer (some ⟨H.size, 0, none⟩)) (H.push (.cells false (ev x).cells.toList))
  | .build t parts => match P.underlying t with
    | some (.struct fs) => (zeroOf P t).bind fun z => (placesOf P fs.toList).bind fun ps => (pFill (ps[·]?) z.cells.toList (parts.toList.map fun p => (p.1, ev p.2))).bind fun cs => k (.agg cs.toArray) H
    | some (.array _ el) => (zeroOf P t).bind fun z => (szOf P el).bind fun e => (pFill (fun i => some (i * e, e)) z.cells.toList (parts.toList.map fun p => (p.1, ev p.2))).bind fun cs => k (.agg cs.toArray) H
    | _ => none
  | .buildSlice t len parts => (elemOf' P t).bind fun el => (szOf P el).bind fun e => (zeroOf P el).bind fun z =>
      if 0 < e ∧ z.cells.size = e ∧ len * e ≤ 2 ^ 24 then
        (pFill (fun i => some (i * e, e)) (List.replicate len z.cells.toList).flatten (parts.toList.map fun p => (p.1, ev p.2))).bind fun cs => k (.slice (some ⟨H.size, 0, none⟩) len e) (H.push (.cells false cs))
      else none
  | .load t a => (aggOf P t).bind fun g => match g with
    | some n => (pLdN n (ev a) H).bind fun v => k v H
    | none => (pLd1 (ev a) H).bind fun v => k v H
  | .store t a x => (szOf P t).bind fun n => (pSt n (ev a) (ev x) H).bind fun H' => k undef H'
  | .nilCheck x => (pNil (ev x)).bind fun v => k v H
  | .binOp op t x y _ => (pBin (clsOf P t) op (ev x) (ev y)).bind fun v => k v H
  | .unOp op _ x => (pUn op (ev x)).bind fun v => k v H
  | .convert src dst x => match P.underlying src with
    | some _ => (pConv (kindOf P dst) (ev x)).bind fun v => k v H
    | none => none
  | .makeFunc fn first captured => k (.func fn (first.map ev) (captured.map ev)) H
  | .makeMap _ none => k (.map (some H.size)) (H.push (.map [] 0))
  | .makeSlice t l c => (elemOf' P t).bind fun el => (szOf P el).bind fun e => (bytesOf' P el).bind fun by' => (zeroOf P el).bind fun z => (pMake z.cells.toList e by' (ev l) (ev c) H).bind fun r => k r.1 r.2
  | .slice t x lo hi none => (elemOf' P t).bind fun el => (szOf P el).bind fun e => (pSlice e (ev x) (lo.map ev) (hi.map ev)).bind fun v => k v H
  | .slice t x none (some hi) (some mx) => (elemOf' P t).bind fun el => (szOf P el).bind fun _ => (pSlice0 (ev x) (ev hi) (ev mx)).bind fun v => k v H
  | .fieldAddr s x f => (fieldOf P s f).bind fun f => (szOf P f.type).bind fun n => if n = 0 then none else (pFld f.offset (ev x)).bind fun v => k v H
  | .field s x f => (fieldOf P s f).bind fun f => (aggOf P f.type).bind fun n => (pPart n f.offset (ev x)).bind fun v => k v H
  | .indexAddr t x i => match P.underlying t with
    | some (.slice el) => (szOf P el).bind fun e => (pIdx e (ev x) (ev i)).bind fun v => k v H
    | some (.array len el) => (szOf P el).bind fun e => (pIdxA len e (ev x) (ev i)).bind fun v => k v H
    | _ => none
  | .index t x i => match P.underlying t with
    | some (.array len el) => (szOf P el).bind fun e => (aggOf P el).bind fun n => (pIndexV len n e (ev x) (ev i)).bind fun v => k v H
    | some .string => (pIndexS (ev x) (ev i)).bind fun v => k v H
    | _ => none
  | .lookup t m key ok => (mapTypes P t).bind fun kt => (flatKey P kt.1).bind fun fl => (zeroOf P kt.2).bind fun z => (pLookup fl z (ev m) (ev key) ok H).bind fun v => k v H
  | .mapUpdate t m key x => (mapTypes P t).bind fun kt => (flatKey P kt.1).bind fun fl => (pUpdate fl (ev m) (ev key) (ev x) H).bind fun H' => k undef H'
  | .extract t i => (pExtract (ev t) i).bind fun v => k v H
  | .call c => match c.callee with
    | .builtin b => cBuiltin0 P b c.argTypes (c.args.toList.map ev) H k
    | .value f => (pCallee (ev f) (c.args.toList.map ev)).bind fun fa => (call fa.1 fa.2 H).bind fun r => k r.1 r.2
    | _ => none
  | _ => none

abbrev cBuiltin (P : Program) (b : Builtin) (argTypes : Array TypeId) (args : List Value) (H : AH) (k : Value → AH → Option R) : Option R :=
  match b, args with
  | .len, [x] => match (argTypes[0]?).bind fun t => P.underlying t with
    | some (.slice _) => match x with | .slice _ n _ => k (.int .i64 n) H | _ => none
    | some .string => match x with | .string s => k (.int .i64 s.size) H | _ => none
    | some (.map _ _) => (pLenM x H).bind fun v => k v H
    | _ => none
  | .max, args => (pMax args).bind fun v => k v H
  | .min, args => (pMin args).bind fun v => k v H
  | .append, [s, x] => tb (argTypes[0]?) fun t => tb (elemOf' P t) fun el => tb (szOf P el) fun e => tb (bytesOf' P el) fun by' => tb (zeroOf P el) fun z =>
      if z.cells.size = e ∧ (argTypes[1]?).bind (fun u => elemOf' P u) = some el then (pApp e by' s x H).bind fun r => k r.1 r.2 else none
  | .delete, [m, key] => tb (argTypes[0]?) fun t => tb (mapTypes P t) fun kt => tb (flatKey P kt.1) fun fl => (pDelete fl m key H).bind fun H' => k (.tuple #[]) H'
  | _, _ => none

abbrev cOp (P : Program) (call : CallF) (ev : Operand → Value) (o : Oper) (H : AH) (k : Value → AH → Option R) : Option R :=
  match o.op with
  | .move x => k (ev x) H
  | .assign x => k (ev x) H
  | .pick c a b => (pPick (ev c) (ev a) (ev b)).bind fun v => k v H
  | .alloc t => tb (zeroOf P t) fun z => k (.pointer (some ⟨H.size, 0, none⟩)) (H.push (.cells false z.cells.toList))
  | .box _ x => k (.pointer (some ⟨H.size, 0, none⟩)) (H.push (.cells false (ev x).cells.toList))
  | .build t parts => match P.underlying t with
    | some (.struct fs) => tb (zeroOf P t) fun z => tb (placesOf P fs.toList) fun ps => (pFill (ps[·]?) z.cells.toList (parts.toList.map fun p => (p.1, ev p.2))).bind fun cs => k (.agg cs.toArray) H
    | some (.array _ el) => tb (zeroOf P t) fun z => tb (szOf P el) fun e => (pFill (fun i => some (i * e, e)) z.cells.toList (parts.toList.map fun p => (p.1, ev p.2))).bind fun cs => k (.agg cs.toArray) H
    | _ => none
  | .buildSlice t len parts => tb (elemOf' P t) fun el => tb (szOf P el) fun e => tb (zeroOf P el) fun z =>
      if 0 < e ∧ z.cells.size = e ∧ len * e ≤ 2 ^ 24 then
        (pFill (fun i => some (i * e, e)) (List.replicate len z.cells.toList).flatten (parts.toList.map fun p => (p.1, ev p.2))).bind fun cs => k (.slice (some ⟨H.size, 0, none⟩) len e) (H.push (.cells false cs))
      else none
  | .load t a => tb (aggOf P t) fun g => match g with
    | some n => (pLdN n (ev a) H).bind fun v => k v H
    | none => (pLd1 (ev a) H).bind fun v => k v H
  | .store t a x => tb (szOf P t) fun n => (pSt n (ev a) (ev x) H).bind fun H' => k undef H'
  | .nilCheck x => (pNil (ev x)).bind fun v => k v H
  | .binOp op t x y _ => (pBin (clsOf P t) op (ev x) (ev y)).bind fun v => k v H
  | .unOp op _ x => (pUn op (ev x)).bind fun v => k v H
  | .convert src dst x => match P.underlying src with
    | some _ => (pConv (kindOf P dst) (ev x)).bind fun v => k v H
    | none => none
  | .makeFunc fn first captured => k (.func fn (first.map ev) (captured.map ev)) H
  | .makeMap _ none => k (.map (some H.size)) (H.push (.map [] 0))
  | .makeSlice t l c => tb (elemOf' P t) fun el => tb (szOf P el) fun e => tb (bytesOf' P el) fun by' => tb (zeroOf P el) fun z => (pMake z.cells.toList e by' (ev l) (ev c) H).bind fun r => k r.1 r.2
  | .slice t x lo hi none => tb (elemOf' P t) fun el => tb (szOf P el) fun e => (pSlice e (ev x) (lo.map ev) (hi.map ev)).bind fun v => k v H
  | .slice t x none (some hi) (some mx) => tb (elemOf' P t) fun el => tb (szOf P el) fun _ => (pSlice0 (ev x) (ev hi) (ev mx)).bind fun v => k v H
  | .fieldAddr s x f => tb (fieldOf P s f) fun f => tb (szOf P f.type) fun n => if n = 0 then none else (pFld f.offset (ev x)).bind fun v => k v H
  | .field s x f => tb (fieldOf P s f) fun f => tb (aggOf P f.type) fun n => (pPart n f.offset (ev x)).bind fun v => k v H
  | .indexAddr t x i => match P.underlying t with
    | some (.slice el) => tb (szOf P el) fun e => (pIdx e (ev x) (ev i)).bind fun v => k v H
    | some (.array len el) => tb (szOf P el) fun e => (pIdxA len e (ev x) (ev i)).bind fun v => k v H
    | _ => none
  | .index t x i => match P.underlying t with
    | some (.array len el) => tb (szOf P el) fun e => tb (aggOf P el) fun n => (pIndexV len n e (ev x) (ev i)).bind fun v => k v H
    | some .string => (pIndexS (ev x) (ev i)).bind fun v => k v H
    | _ => none
  | .lookup t m key ok => tb (mapTypes P t) fun kt => tb (flatKey P kt.1) fun fl => tb (zeroOf P kt.2) fun z => (pLookup fl z (ev m) (ev key) ok H).bind fun v => k v H
  | .mapUpdate t m key x => tb (mapTypes P t) fun kt => tb (flatKey P kt.1) fun fl => (pUpdate fl (ev m) (ev key) (ev x) H).bind fun H' => k undef H'
  | .extract t i => (pExtract (ev t) i).bind fun v => k v H
  | .call c => match c.callee with
    | .builtin b => cBuiltin P b c.argTypes (c.args.toList.map ev) H k
    | .value f => (pCallee (ev f) (c.args.toList.map ev)).bind fun fa => (call fa.1 fa.2 H).bind fun r => k r.1 r.2
    | _ => none
  | _ => none

theorem map_pair {α β γ : Type} (x : Option α) (b : β) (k : α → β → Option γ) : ((x.map (·, b)).bind fun r => k r.1 r.2) = x.bind fun v => k v b := by cases x <;> rfl
theorem map_undef {β γ : Type} (x : Option β) (v : Value) (k : Value → β → Option γ) : ((x.map fun H' => (v, H')).bind fun r => k r.1 r.2) = x.bind fun H' => k v H' := by cases x <;> rfl

theorem cBuiltin0_eq (P : Program) (b : Builtin) (ts : Array TypeId) (args : List Value) (H : AH) (k : Value → AH → Option R) : cBuiltin0 P b ts args H k = (aBuiltin P b ts args H).bind fun r => k r.1 r.2 := by
  cases b with
  | len =>
    match args with
    | [] => rfl
    | [x] =>
      simp only [cBuiltin0, aBuiltin]
      cases (ts[0]?).bind fun t => P.underlying t with
      | none => rfl
      | some d => cases d <;> first | rfl | (cases x <;> rfl) | (simp only [map_pair])
    | x :: y :: zs => rfl
  | max => simp only [cBuiltin0, aBuiltin, map_pair]
  | min => simp only [cBuiltin0, aBuiltin, map_pair]
  | append =>
    match args with
    | [] => rfl
    | [x] => rfl
    | [s, x] =>
      simp only [cBuiltin0, aBuiltin, Option.bind_assoc]
      congr 1; funext t; congr 1; funext el; congr 1; funext e; congr 1; funext b; congr 1; funext z
      split
      · rfl
      · rfl
    | x :: y :: z :: zs => rfl
  | delete =>
    match args with
    | [] => rfl
    | [x] => rfl
    | [s, x] => simp only [cBuiltin0, aBuiltin, Option.bind_assoc, map_undef]
    | x :: y :: z :: zs => rfl
  | _ => rfl

theorem cOp0_eq (P : Program) (call : CallF) (ev : Operand → Value) (o : Oper) (H : AH) (k : Value → AH → Option R) : cOp0 P call ev o H k = (aOp P call ev o H).bind fun r => k r.1 r.2 := by
  obtain ⟨dst, op, type, pos, after, guard⟩ := o
  cases op with
  | call c =>
    obtain ⟨callee, args, ats⟩ := c
    cases callee with
    | value f => simp only [cOp0, aOp, Option.bind_assoc]
    | invoke r m => rfl
    | builtin b => simp only [cOp0, aOp]; exact cBuiltin0_eq ..
  | makeMap t r => cases r <;> rfl
  | slice t x lo hi mx =>
    cases mx with
    | none => simp only [cOp0, aOp, Option.bind_assoc, map_pair]
    | some m => cases lo <;> cases hi <;> first | rfl | (simp only [cOp0, aOp, Option.bind_assoc, map_pair])
  | load t a =>
    simp only [cOp0, aOp, Option.bind_assoc]
    congr 1
    funext g
    cases g <;> simp only [map_pair]
  | build t parts =>
    simp only [cOp0, aOp]
    cases P.underlying t with
    | none => rfl
    | some d => cases d <;> first | rfl | (simp only [Option.bind_assoc, Option.bind_map]; rfl)
  | buildSlice t len parts =>
    simp only [cOp0, aOp, Option.bind_assoc]
    congr 1; funext el; congr 1; funext e; congr 1; funext z
    split
    · rw [Option.bind_map]; rfl
    · rfl
  | fieldAddr s x f =>
    simp only [cOp0, aOp, Option.bind_assoc]
    congr 1; funext el; congr 1; funext e
    split
    · rfl
    · rw [map_pair]
  | alloc t => simp only [cOp0, aOp, Option.bind_map]; rfl
  | indexAddr t x i =>
    simp only [cOp0, aOp]
    cases P.underlying t with
    | none => rfl
    | some d => cases d <;> first | rfl | (simp only [Option.bind_assoc, map_pair])
  | index t x i =>
    simp only [cOp0, aOp]
    cases P.underlying t with
    | none => rfl
    | some d => cases d <;> first | rfl | (simp only [Option.bind_assoc, map_pair])
  | convert s d x =>
    simp only [cOp0, aOp]
    cases P.underlying s with
    | none => rfl
    | some d => simp only [map_pair]
  | store t x y => simp only [cOp0, aOp, Option.bind_assoc, map_undef]
  | mapUpdate t m key x => simp only [cOp0, aOp, Option.bind_assoc, map_undef]
  | _ => first | rfl | (simp only [cOp0, aOp, Option.bind_assoc, map_pair]; done)


theorem cBuiltin_0 (P : Program) (b : Builtin) (ts : Array TypeId) (args : List Value) (H : AH) (k : Value → AH → Option R) : cBuiltin P b ts args H k = cBuiltin0 P b ts args H k := by
  unfold cBuiltin cBuiltin0
  simp only [tb_eq]
theorem cOp_0 (P : Program) (call : CallF) (ev : Operand → Value) (o : Oper) (H : AH) (k : Value → AH → Option R) : cOp P call ev o H k = cOp0 P call ev o H k := by
  unfold cOp cOp0
  simp only [tb_eq, cBuiltin_0]
theorem cBuiltin_eq (P : Program) (b : Builtin) (ts : Array TypeId) (args : List Value) (H : AH) (k : Value → AH → Option R) : cBuiltin P b ts args H k = (aBuiltin P b ts args H).bind fun r => k r.1 r.2 := (cBuiltin_0 ..).trans (cBuiltin0_eq ..)
theorem cOp_eq (P : Program) (call : CallF) (ev : Operand → Value) (o : Oper) (H : AH) (k : Value → AH → Option R) : cOp P call ev o H k = (aOp P call ev o H).bind fun r => k r.1 r.2 := (cOp_0 ..).trans (cOp0_eq ..)

/-- Does it leave the heap as it is? -/
def isLook (op : Op) : Bool := opK op == 0 || opK op == 2
theorem look_same {P : Program} {call : CallF} {ev : Operand → Value} {o : Oper} {H : AH} (h : isLook o.op = true) : aOp P call ev o H = (cOp P call ev o H fun v _ => some v).map (·, H) := by
  rw [cOp_eq]
  cases hx : aOp P call ev o H with
  | none => rfl
  | some r =>
    obtain ⟨v, H'⟩ := r
    simp only [Option.bind_some, Option.map_some]
    unfold isLook at h
    simp only [Bool.or_eq_true, beq_iff_eq] at h
    rcases h with h | h
    · rw [(aOp_pure h hx).1]
    · rw [aOp_rd h] at hx
      obtain ⟨y, _, e⟩ := Option.map_eq_some_iff.1 hx
      rw [(Prod.mk.inj e).2]

/-- An operation that a guard may leave out. -/
abbrev cStep (P : Program) (G : List Nat) (call : CallF) (ops : Array Oper) (o : Oper) (A : List Value) (H : AH) (k : List Value → AH → Option R) : Option R :=
  match o.op.operands.toList.all (okX G) with
  | true => match o.guard with
    | none => cOp P call (aEv A) o H fun v H' => k (aPut A o.dst v) H'
    | some g => match isLook o.op with
      | true => (match aYield ops A g.1 == some g.2 with
        | true => cOp P call (aEv A) o H fun v _ => some v
        | false => some undef).bind fun v => k (aPut A o.dst v) H
      | false => (match aYield ops A g.1 == some g.2 with
        | true => aOp P call (aEv A) o H
        | false => some (undef, H)).bind fun r => k (aPut A o.dst r.1) r.2
  | false => none

theorem cStep_eq (P : Program) (G : List Nat) (call : CallF) (ops : Array Oper) (o : Oper) (A : List Value) (H : AH) (k : List Value → AH → Option R) : cStep P G call ops o A H k = (aStep P G call ops o A H).bind fun s => k s.1 s.2 := by
  unfold cStep aStep
  cases o.op.operands.toList.all (okX G) with
  | false => rfl
  | true =>
    simp only [if_true]
    unfold Region.wanted
    cases o.guard with
    | none =>
      simp only [if_true]
      rw [cOp_eq, Option.bind_map]; rfl
    | some g =>
      obtain ⟨g, want⟩ := g
      simp only
      cases hl : isLook o.op with
      | true =>
        simp only
        by_cases h : (aYield ops A g == some want) = true
        · rw [if_pos h, h, look_same hl]
          simp only
          cases (cOp P call (aEv A) o H fun v _ => some v) <;> rfl
        · rw [if_neg h, Bool.eq_false_iff.2 h]; rfl
      | false =>
        simp only
        by_cases h : (aYield ops A g == some want) = true
        · rw [if_pos h, h, Option.bind_map]; rfl
        · rw [if_neg h, Bool.eq_false_iff.2 h]; rfl

abbrev cOps (P : Program) (G : List Nat) (call : CallF) (ops : Array Oper) : List Oper → List Value → AH → (List Value → AH → Option R) → Option R
  | [], A, H, k => k A H
  | o :: rest, A, H, k => cStep P G call ops o A H fun A' H' => cOps P G call ops rest A' H' k

theorem cOps_eq (P : Program) (G : List Nat) (call : CallF) (ops : Array Oper) : ∀ (l : List Oper) (A : List Value) (H : AH) (k : List Value → AH → Option R), cOps P G call ops l A H k = (aOps P G call ops l A H).bind fun s => k s.1 s.2 := by
  intro l
  induction l with
  | nil => intro A H k; rfl
  | cons o l ih =>
    intro A H k
    simp only [cOps, aOps]
    rw [cStep_eq, Option.bind_assoc]
    congr 1
    funext s
    exact ih _ _ _

/-! ### Readings whose order with effects is left open: held against each other where the later one stands -/
/-- These must be alike, or the run comes to nothing. -/
noncomputable def eqK {R : Type} (x y : Option Value) (k : Option R) : Option R := chk (x = y) k
theorem eqK_of {R : Type} {x y : Option Value} (h : x = y) (k : Option R) : eqK x y k = k := chk_true h k
theorem eqK_rfl {R : Type} (x : Option Value) (k : Option R) : eqK x x k = k := chk_true rfl k

noncomputable abbrev cks {R : Type} (j : Nat) (hist : List ((AH → Option Value) × AH)) (rd : AH → Option Value) (H H' : AH) (k : Option R) : List (Nat × Nat) → Option R
  | [] => k
  | pq :: rest => match pq.1 == j with
    | true => match Nat.blt pq.2 j with
      | true => match hist[pq.2]? with
        | some h => eqK (rd h.2) (rd H) (cks j hist rd H H' k rest)
        | none => none
      | false => cks j hist rd H H' k rest
    | false => match pq.2 == j with
      | true => match Nat.blt pq.1 j with
        | true => match hist[pq.1]? with
          | some h => eqK (h.1 H') (h.1 h.2) (cks j hist rd H H' k rest)
          | none => none
        | false => cks j hist rd H H' k rest
      | false => cks j hist rd H H' k rest

theorem chk_bind {α β : Type} (p : Prop) (x : Option α) (k : α → Option β) : (chk p x).bind k = chk p (x.bind k) := by unfold chk; split <;> rfl
theorem cks_bind {α β : Type} {j : Nat} {hist : List ((AH → Option Value) × AH)} {rd : AH → Option Value} {H H' : AH} (x : Option α) (k : α → Option β) : ∀ l, (cks j hist rd H H' x l).bind k = cks j hist rd H H' (x.bind k) l := by
  intro l
  induction l with
  | nil => rfl
  | cons p l ih =>
    simp only [cks]
    cases p.1 == j with
    | true =>
      cases Nat.blt p.2 j with
      | true =>
        simp only
        cases hist[p.2]? with
        | none => rfl
        | some h => simp only [eqK]; rw [chk_bind, ih]
      | false => exact ih
    | false =>
      cases p.2 == j with
      | true =>
        cases Nat.blt p.1 j with
        | true =>
          simp only
          cases hist[p.1]? with
          | none => rfl
          | some h => simp only [eqK]; rw [chk_bind, ih]
        | false => exact ih
      | false => exact ih

/-- What is held against each other at the j-th. -/
def ckP (j : Nat) (hist : List ((AH → Option Value) × AH)) (rd : AH → Option Value) (H H' : AH) (p : Nat × Nat) : Prop :=
  (p.1 = j → p.2 < j → ∃ h, hist[p.2]? = some h ∧ rd h.2 = rd H) ∧ (p.2 = j → p.1 < j → ∃ h, hist[p.1]? = some h ∧ h.1 H' = h.1 h.2)
theorem chk_iff {α : Type} {p : Prop} {x : Option α} {r : α} : chk p x = some r ↔ p ∧ x = some r := ⟨chk_some, fun h => by rw [chk_true h.1]; exact h.2⟩
theorem cks_iff {α : Type} {j : Nat} {hist : List ((AH → Option Value) × AH)} {rd : AH → Option Value} {H H' : AH} {x : Option α} {r : α} : ∀ {l}, cks j hist rd H H' x l = some r ↔ (∀ p ∈ l, ckP j hist rd H H' p) ∧ x = some r := by
  intro l
  induction l with
  | nil => simp [cks]
  | cons p l ih =>
    have split : (∀ q ∈ p :: l, ckP j hist rd H H' q) ↔ ckP j hist rd H H' p ∧ ∀ q ∈ l, ckP j hist rd H H' q := by simp
    rw [split, and_assoc, ← ih]
    simp only [cks]
    by_cases h1 : p.1 = j
    · have e1 : (p.1 == j) = true := by simpa using h1
      rw [e1]
      simp only
      by_cases h2 : p.2 < j
      · have e2 : Nat.blt p.2 j = true := by simpa [Nat.blt_eq] using h2
        rw [e2]
        simp only
        have hn : ¬ p.2 = j := by omega
        unfold ckP
        cases hist[p.2]? with
        | none => simp [h1, h2]
        | some h => simp only [eqK]; rw [chk_iff]; simp [h1, h2, hn]
      · have e2 : Nat.blt p.2 j = false := by rw [Bool.eq_false_iff]; intro h; exact h2 (by simpa [Nat.blt_eq] using h)
        rw [e2]
        simp only
        have : ckP j hist rd H H' p := ⟨fun _ h => absurd h h2, fun _ h => absurd h (by omega)⟩
        simp [this]
    · have e1 : (p.1 == j) = false := by simpa using h1
      rw [e1]
      simp only
      by_cases h2 : p.2 = j
      · have e2 : (p.2 == j) = true := by simpa using h2
        rw [e2]
        simp only
        by_cases h3 : p.1 < j
        · have e3 : Nat.blt p.1 j = true := by simpa [Nat.blt_eq] using h3
          rw [e3]
          simp only
          unfold ckP
          cases hist[p.1]? with
          | none => simp [h1, h2, h3]
          | some h => simp only [eqK]; rw [chk_iff]; simp [h1, h2, h3]
        · have e3 : Nat.blt p.1 j = false := by rw [Bool.eq_false_iff]; intro h; exact h3 (by simpa [Nat.blt_eq] using h)
          rw [e3]
          simp only
          have : ckP j hist rd H H' p := ⟨fun h => absurd h h1, fun _ h => absurd h h3⟩
          simp [this]
      · have e2 : (p.2 == j) = false := by simpa using h2
        rw [e2]
        simp only
        have : ckP j hist rd H H' p := ⟨fun h => absurd h h1, fun h => absurd h h2⟩
        simp [this]

abbrev rdOf (P : Program) (A : List Value) (o : Oper) : AH → Option Value := fun H => aRd P (aEv A) o.op H
noncomputable def aOpsC (P : Program) (G : List Nat) (call : CallF) (ops : Array Oper) (pairs : List (Nat × Nat)) : List Oper → Nat → List ((AH → Option Value) × AH) → List Value → AH → Option (List Value × AH)
  | [], _, _, A, H => some (A, H)
  | o :: rest, j, hist, A, H => (aStep P G call ops o A H).bind fun s => cks j hist (rdOf P A o) H s.2 (aOpsC P G call ops pairs rest (j + 1) (hist ++ [(rdOf P A o, H)]) s.1 s.2) pairs
noncomputable abbrev cOpsC (P : Program) (G : List Nat) (call : CallF) (ops : Array Oper) (pairs : List (Nat × Nat)) : List Oper → Nat → List ((AH → Option Value) × AH) → List Value → AH → (List Value → AH → Option R) → Option R
  | [], _, _, A, H, k => k A H
  | o :: rest, j, hist, A, H, k => cStep P G call ops o A H fun A' H' => cks j hist (rdOf P A o) H H' (cOpsC P G call ops pairs rest (j + 1) (hist ++ [(rdOf P A o, H)]) A' H' k) pairs

theorem cOpsC_eq (P : Program) (G : List Nat) (call : CallF) (ops : Array Oper) (pairs : List (Nat × Nat)) : ∀ (l : List Oper) (j : Nat) (hist : List ((AH → Option Value) × AH)) (A : List Value) (H : AH) (k : List Value → AH → Option R), cOpsC P G call ops pairs l j hist A H k = (aOpsC P G call ops pairs l j hist A H).bind fun s => k s.1 s.2 := by
  intro l
  induction l with
  | nil => intro j hist A H k; rfl
  | cons o l ih =>
    intro j hist A H k
    simp only [cOpsC, aOpsC]
    rw [cStep_eq, Option.bind_assoc]
    congr 1
    funext s
    rw [cks_bind, ih]

/-- What the run with checks comes to. -/
theorem aOpsC_iff {P : Program} {G : List Nat} {call : CallF} {ops : Array Oper} {pairs : List (Nat × Nat)} {A0 : List Value} {H0 : AH} {r0 : List Value × AH} (h0 : aOps P G call ops ops.toList A0 H0 = some r0) (hp : ∀ p ∈ pairs, p.1 < ops.size ∧ p.2 < ops.size ∧ p.1 ≠ p.2) :
    ∀ (l : List Oper) (j : Nat) (hist : List ((AH → Option Value) × AH)), ops.toList.drop j = l → hist.length = j → (∀ i, i < j → ∃ o, ops[i]? = some o ∧ hist[i]? = some (rdOf P (stA P G call ops A0 H0 i).1 o, (stA P G call ops A0 H0 i).2)) →
      ∀ r, aOpsC P G call ops pairs l j hist (stA P G call ops A0 H0 j).1 (stA P G call ops A0 H0 j).2 = some r ↔ (∀ p ∈ pairs, j ≤ max p.1 p.2 → lookOK P (stA P G call ops A0 H0) ops p) ∧ r = r0 := by
  intro l
  induction l with
  | nil =>
    intro j hist hl hlen hh r
    have hj : ops.size ≤ j := by
      have := congrArg List.length hl
      simp at this; omega
    have hst : stA P G call ops A0 H0 j = r0 := by
      unfold stA
      rw [List.take_of_length_le (by simpa using hj), h0]; rfl
    simp only [aOpsC, hst]
    constructor
    · intro e
      exact ⟨fun p hpm hm => absurd (hp p hpm) (by omega), (Option.some.inj e).symm⟩
    · rintro ⟨_, rfl⟩; rfl
  | cons o l ih =>
    intro j hist hl hlen hh r
    have hj : ops.toList[j]? = some o := by
      have := congrArg (·[0]?) hl
      simpa using this
    have ho : ops[j]? = some o := by simpa using hj
    have hjs : j < ops.size := by
      have := (List.getElem?_eq_some_iff.1 hj).1
      simpa using this
    have hstep := stA_step h0 ho
    have hl' : ops.toList.drop (j + 1) = l := by
      have := congrArg (List.drop 1) hl
      simpa [List.drop_drop, Nat.add_comm] using this
    have hh' : ∀ i, i < j + 1 → ∃ o', ops[i]? = some o' ∧ (hist ++ [(rdOf P (stA P G call ops A0 H0 j).1 o, (stA P G call ops A0 H0 j).2)])[i]? = some (rdOf P (stA P G call ops A0 H0 i).1 o', (stA P G call ops A0 H0 i).2) := by
      intro i hi
      by_cases e : i = j
      · subst e
        exact ⟨o, ho, by rw [List.getElem?_append_right (by omega)]; simp [hlen]⟩
      · obtain ⟨o', h1, h2⟩ := hh i (by omega)
        exact ⟨o', h1, by rw [List.getElem?_append_left (by omega)]; exact h2⟩
    have hi := ih (j + 1) _ hl' (by simp [hlen]) hh' r
    simp only [aOpsC]
    rw [hstep]
    simp only [Option.bind_some]
    rw [cks_iff, hi]
    have key : ∀ p ∈ pairs, max p.1 p.2 = j → (ckP j hist (rdOf P (stA P G call ops A0 H0 j).1 o) (stA P G call ops A0 H0 j).2 (stA P G call ops A0 H0 (j + 1)).2 p ↔ lookOK P (stA P G call ops A0 H0) ops p) := by
      intro p hpm hm
      obtain ⟨h1, h2, h3⟩ := hp p hpm
      unfold ckP lookOK
      by_cases hlt : p.2 < p.1
      · have e1 : p.1 = j := by omega
        obtain ⟨o2, _, hg⟩ := hh p.2 (by omega)
        rw [if_pos hlt]
        constructor
        · intro ⟨a, _⟩ o' ho'
          rw [e1, ho] at ho'
          cases ho'
          obtain ⟨h, hg', e⟩ := a e1 (by omega)
          rw [hg] at hg'
          cases hg'
          rw [e1]
          exact e
        · intro a
          refine ⟨fun _ _ => ⟨_, hg, ?_⟩, fun e => absurd e (by omega)⟩
          have := a o (by rw [e1]; exact ho)
          rw [e1] at this
          exact this
      · have e2 : p.2 = j := by omega
        obtain ⟨o1, ho1, hg⟩ := hh p.1 (by omega)
        rw [if_neg hlt, e2]
        constructor
        · intro ⟨_, a⟩ o' ho'
          rw [ho1] at ho'
          cases ho'
          obtain ⟨h, hg', e⟩ := a rfl (by omega)
          rw [hg] at hg'
          cases hg'
          exact e
        · intro a
          refine ⟨fun e => absurd e (by omega), fun _ _ => ⟨_, hg, a o1 ho1⟩⟩
    have out : ∀ p ∈ pairs, max p.1 p.2 ≠ j → ckP j hist (rdOf P (stA P G call ops A0 H0 j).1 o) (stA P G call ops A0 H0 j).2 (stA P G call ops A0 H0 (j + 1)).2 p := by
      intro p hpm hm
      exact ⟨fun h1 h2 => absurd hm (by omega), fun h1 h2 => absurd hm (by omega)⟩
    constructor
    · rintro ⟨a, b, c⟩
      refine ⟨fun p hpm hm => ?_, c⟩
      by_cases e : max p.1 p.2 = j
      · exact (key p hpm e).1 (a p hpm)
      · exact b p hpm (by omega)
    · rintro ⟨a, c⟩
      refine ⟨fun p hpm => ?_, fun p hpm hm => a p hpm (by omega), c⟩
      by_cases e : max p.1 p.2 = j
      · exact (key p hpm e).2 (a p hpm (by omega))
      · exact out p hpm e

theorem aOpsC_aOps {P : Program} {G : List Nat} {call : CallF} {ops : Array Oper} {pairs : List (Nat × Nat)} : ∀ (l : List Oper) (j : Nat) (hist : List ((AH → Option Value) × AH)) (A : List Value) (H : AH) (r : List Value × AH), aOpsC P G call ops pairs l j hist A H = some r → aOps P G call ops l A H = some r := by
  intro l
  induction l with
  | nil => intro j hist A H r h; exact h
  | cons o l ih =>
    intro j hist A H r h
    simp only [aOpsC] at h
    obtain ⟨s, hs, h⟩ := Option.bind_eq_some_iff.1 h
    simp only [aOps]
    rw [hs]
    exact ih _ _ _ _ _ (cks_iff.1 h).2

theorem lookPairs_in {ops : Array Oper} : ∀ p ∈ lookPairs ops.toList, p.1 < ops.size ∧ p.2 < ops.size ∧ p.1 ≠ p.2 := by
  intro p hp
  unfold lookPairs at hp
  simp only [List.mem_flatMap, List.mem_filter, List.mem_map] at hp
  obtain ⟨x, ⟨hx, hx2⟩, y, ⟨hy, hy2⟩, rfl⟩ := hp
  have hx := List.mem_zipIdx hx
  have hy := List.mem_zipIdx hy
  simp only [beq_iff_eq] at hx2
  simp only [Bool.and_eq_true, beq_iff_eq] at hy2
  refine ⟨by have := hx.2.1; simpa using this, by have := hy.2.1; simpa using this, ?_⟩
  intro e
  simp only at e
  have e3 := hy2.1.1
  have ex := hx.2.2
  have ey := hy.2.2
  simp only [e, Nat.sub_zero] at ex ey
  have : x.1 = y.1 := by rw [ex, ey]
  rw [this, e3] at hx2
  cases hx2

theorem chk_inline {P : Program} {G : List Nat} {call : CallF} {ops : Array Oper} {pairs : List (Nat × Nat)} (hp : ∀ p ∈ pairs, p.1 < ops.size ∧ p.2 < ops.size ∧ p.1 ≠ p.2) (A : List Value) (H : AH) :
    chk (∀ q ∈ pairs, lookOK P (stA P G call ops A H) ops q) (aOps P G call ops ops.toList A H) = aOpsC P G call ops pairs ops.toList 0 [] A H := by
  cases hx : aOps P G call ops ops.toList A H with
  | none =>
    cases hy : aOpsC P G call ops pairs ops.toList 0 [] A H with
    | none => unfold chk; split <;> rfl
    | some r => have := aOpsC_aOps _ _ _ _ _ _ hy; rw [hx] at this; cases this
  | some r0 =>
    have hi := aOpsC_iff hx hp ops.toList 0 [] rfl rfl (fun i hi => absurd hi (by omega))
    simp only [stA_zero] at hi
    cases hy : aOpsC P G call ops pairs ops.toList 0 [] A H with
    | none =>
      cases hz : chk (∀ q ∈ pairs, lookOK P (stA P G call ops A H) ops q) (some r0) with
      | none => rfl
      | some r =>
        obtain ⟨h1, h2⟩ := chk_some hz
        have := (hi r0).2 ⟨fun p hpm _ => h1 p hpm, rfl⟩
        rw [hy] at this; cases this
    | some r =>
      obtain ⟨h1, h2⟩ := (hi r).1 hy
      rw [chk_true (fun p hpm => h1 p hpm (by omega)), h2]

noncomputable abbrev cRegion (P : Program) (G : List Nat) (call : CallF) (ops : Array Oper) (draw : Bool) (A : List Value) (H : AH) (k : List Value → AH → Option R) : Option R :=
  match draw with
  | false => cOps P G call ops ops.toList A H k
  | true => match regOK ops.toList with
    | false => none
    | true => match lookPairs ops.toList with
      | [] => cOps P G call ops ops.toList A H k
      | p :: ps => cOpsC P G call ops (p :: ps) ops.toList 0 [] A H k

theorem cRegion_eq (P : Program) (G : List Nat) (call : CallF) (ops : Array Oper) (draw : Bool) (A : List Value) (H : AH) (k : List Value → AH → Option R) : cRegion P G call ops draw A H k = (aRegion P G call ops draw A H).bind fun s => k s.1 s.2 := by
  unfold cRegion aRegion aDraw
  cases draw with
  | false => exact cOps_eq ..
  | true =>
    simp only
    cases regOK ops.toList with
    | false => rfl
    | true =>
      simp only
      cases hl : lookPairs ops.toList with
      | nil => exact cOps_eq ..
      | cons p ps =>
        simp only
        rw [chk_inline (fun q hq => lookPairs_in q (by rw [hl]; exact hq)), cOpsC_eq]

/-- How what a piece of code comes to goes on. -/
def disp (kn : List Value → AH → Option R) (kx : Nat → List Value → AH → Option R) (kr : List Value → AH → Option R) (r : AR) : Option R :=
  match r.1 with
  | .normal => kn r.2.1 r.2.2
  | .exit i => kx i r.2.1 r.2.2
  | .ret => kr r.2.1 r.2.2

noncomputable def cLoop (P : Program) (G : List Nat) (call : CallF) (x : Code) (A : List Value) (H : AH) (kx : Nat → List Value → AH → Option R) (kr : List Value → AH → Option R) : Option R :=
  (aLoop (aCode P G call x) A H).bind (disp (fun _ _ => none) kx kr)

noncomputable abbrev cCode (P : Program) (G : List Nat) (call : CallF) : Code → List Value → AH → (List Value → AH → Option R) → (Nat → List Value → AH → Option R) → (List Value → AH → Option R) → Option R
  | .skip, A, H, kn, _, _ => kn A H
  | .label _, A, H, kn, _, _ => kn A H
  | .region _ ops draw, A, H, kn, _, _ => cRegion P G call ops draw A H kn
  | .seq x y, A, H, kn, kx, kr => cCode P G call x A H (fun A H => cCode P G call y A H kn kx kr) kx kr
  | .cond c x y, A, H, kn, kx, kr => match aEv A c with
    | .bool true => cCode P G call x A H kn kx kr
    | .bool false => cCode P G call y A H kn kx kr
    | _ => none
  | .block id x, A, H, kn, kx, kr => cCode P G call x A H kn (fun i A H => if i = id then kn A H else kx i A H) kr
  | .loop x, A, H, _, kx, kr => cLoop P G call x A H kx kr
  | .exit id, A, H, _, kx, _ => kx id A H
  | .ret, A, H, _, _, kr => kr A H
  | _, _, _, _, _, _ => none

theorem aIter_not {f : List Value → AH → Option AR} : ∀ {n : Nat} {A : List Value} {H : AH} {r : AR}, aIter f n A H = some r → r.1 ≠ .normal := by
  intro n
  induction n with
  | zero => intro A H r h; cases h
  | succ n ih =>
    intro A H r h
    simp only [aIter] at h
    obtain ⟨s, hs, h⟩ := Option.bind_eq_some_iff.1 h
    split at h
    · exact ih h
    · rename_i e
      cases h
      exact fun he => e he

theorem aLoop_not {f : List Value → AH → Option AR} {A : List Value} {H : AH} {r : AR} (h : aLoop f A H = some r) : r.1 ≠ .normal := by
  obtain ⟨n, hn⟩ := aLoop_iff.1 h
  exact aIter_not hn

theorem cCode_eq (P : Program) (G : List Nat) (call : CallF) : ∀ (c : Code) (A : List Value) (H : AH) (kn : List Value → AH → Option R) (kx : Nat → List Value → AH → Option R) (kr : List Value → AH → Option R),
    cCode P G call c A H kn kx kr = (aCode P G call c A H).bind (disp kn kx kr) := by
  intro c
  induction c with
  | skip => intros; rfl
  | label => intros; rfl
  | exit => intros; rfl
  | ret => intros; rfl
  | region id ops draw =>
    intro A H kn kx kr
    simp only [cCode, aCode]
    rw [cRegion_eq, Option.bind_map]; rfl
  | seq x y ihx ihy =>
    intro A H kn kx kr
    simp only [cCode, aCode]
    rw [ihx, Option.bind_assoc]
    congr 1
    funext r
    obtain ⟨e, A1, H1⟩ := r
    cases e with
    | normal => simp only [disp]; exact ihy ..
    | exit i => rfl
    | ret => rfl
  | cond c x y ihx ihy =>
    intro A H kn kx kr
    simp only [cCode, aCode]
    generalize aEv A c = v
    cases v with
    | bool b => cases b <;> first | exact ihx .. | exact ihy ..
    | _ => rfl
  | block id x ih =>
    intro A H kn kx kr
    simp only [cCode, aCode]
    rw [ih, Option.bind_map]
    congr 1
    funext r
    obtain ⟨e, A1, H1⟩ := r
    cases e with
    | normal => rfl
    | exit i =>
      simp only [disp, Function.comp]
      split <;> rfl
    | ret => rfl
  | loop x ih =>
    intro A H kn kx kr
    simp only [cCode, aCode, cLoop]
    cases h : aLoop (aCode P G call x) A H with
    | none => rfl
    | some r =>
      simp only [Option.bind_some]
      have := aLoop_not h
      obtain ⟨e, A1, H1⟩ := r
      cases e with
      | normal => exact absurd rfl this
      | exit i => rfl
      | ret => rfl
  | rangeFunc => intros; rfl
  | scope => intros; rfl
  | goto => intros; rfl
  | refuse => intros; rfl

theorem cLoop_eq (P : Program) (G : List Nat) (call : CallF) (x : Code) (A : List Value) (H : AH) (kx : Nat → List Value → AH → Option R) (kr : List Value → AH → Option R) :
    cLoop P G call x A H kx kr = cCode P G call x A H (fun A H => cLoop P G call x A H kx kr) kx kr := by
  rw [cCode_eq]
  unfold cLoop
  rw [aLoop_eq, Option.bind_assoc]
  congr 1
  funext r
  obtain ⟨e, A1, H1⟩ := r
  cases e <;> rfl

/-- The results. -/
abbrev cMany (P : Program) (A : List Value) (H : AH) : List ResultVar → (List Value → Option R) → Option R
  | [], k => k []
  | .tmp t :: rs, k => cMany P A H rs fun vs => k (A[t]?.getD undef :: vs)
  | .cell a t :: rs, k => tb (aggOf P t) fun g => match g with
    | some n => (pLdN n (A[a]?.getD undef) H).bind fun v => cMany P A H rs fun vs => k (v :: vs)
    | none => (pLd1 (A[a]?.getD undef) H).bind fun v => cMany P A H rs fun vs => k (v :: vs)

theorem cMany_eq (P : Program) (A : List Value) (H : AH) : ∀ (rs : List ResultVar) (k : List Value → Option R), cMany P A H rs k = (aMany P A H rs).bind k := by
  intro rs
  induction rs with
  | nil => intro k; rfl
  | cons r rs ih =>
    intro k
    simp only [aMany, Option.bind_assoc, Option.bind_some]
    cases r with
    | tmp t =>
      simp only [cMany, aResult, Option.bind_some]
      rw [ih]
    | cell a t =>
      simp only [cMany, aResult, Option.bind_assoc, tb_eq]
      congr 1
      funext g
      cases g <;> (simp only; congr 1; funext v; rw [ih])
end

def tup : List Value → Value
  | [v] => v
  | vs => .tuple vs.toArray

abbrev cFin (P : Program) (rs : List ResultVar) (A : List Value) (H : AH) : Option (Value × AH) := cMany P A H rs fun vs => some (tup vs, H)

noncomputable def cBody (P : Program) (G : List Nat) (call : CallF) (n : Nat) (rs : List ResultVar) (c : Code) (args : List Value) (H : AH) : Option (Value × AH) :=
  cCode P G call c (args ++ List.replicate (n - args.length) undef) H (cFin P rs) (fun _ _ _ => none) (cFin P rs)

theorem cFin_eq (P : Program) (rs : List ResultVar) (A : List Value) (H : AH) : cFin P rs A H = (aResults P A H rs).map (·, H) := by
  unfold cFin aResults
  rw [cMany_eq, Option.map_map]
  cases aMany P A H rs with
  | none => rfl
  | some vs =>
    simp only [Option.bind_some, Option.map_some, Function.comp]
    congr 2

theorem cBody_eq (P : Program) (G : List Nat) (call : CallF) (n : Nat) (rs : List ResultVar) (c : Code) (args : List Value) (H : AH) : cBody P G call n rs c args H = aBody P G call n rs c args H := by
  unfold cBody aBody
  rw [cCode_eq]
  congr 1
  funext r
  obtain ⟨e, A1, H1⟩ := r
  cases e with
  | normal => exact cFin_eq ..
  | exit i => rfl
  | ret => exact cFin_eq ..

/-- The body of a function of the program. -/
def bodyOf (fn : Func) : Code := fn.body.getD .skip

theorem aF_of_body {P : Program} {G : List Nat} {f : Nat} {fn : Func} (hf : P.funcs[f]? = some fn) (hb : fn.body.isSome = true) (hn : (fn.name == "runtime.NumGoroutine") = false) (hd : dshape (bodyOf fn) = none) (hl : libName fn.name = false) {args : List Value} {H : AH} {r : Value × AH}
    (h : cBody P G (aF P G) fn.ntmps fn.results.toList (bodyOf fn) args H = some r) : aF P G f args H = some r := by
  cases hc : fn.body with
  | none => rw [hc] at hb; cases hb
  | some c =>
    rw [cBody_eq] at h
    unfold bodyOf at h hd
    rw [hc] at h hd
    exact aF_of hf hc (by simpa using hn) hd hl h

/-- A part of a text: 0 and 1 are the sides of a sequence, 2 and 3 of a condition, 4 what stands in a block, 5 in a loop. -/
def Code.sub : Code → List Nat → Code
  | c, [] => c
  | .seq x _, 0 :: p => Code.sub x p
  | .seq _ y, 1 :: p => Code.sub y p
  | .cond _ x _, 2 :: p => Code.sub x p
  | .cond _ _ y, 3 :: p => Code.sub y p
  | .block _ x, 4 :: p => Code.sub x p
  | .loop x, 5 :: p => Code.sub x p
  | _, _ => .skip
end Go.Proofs.YthagelbepgcolaaGreatDoor.Gst
/- What the printed functions are made of. -/
namespace Go.Proofs.YthagelbepgcolaaGreatDoor.Gst
open Go Go.RowKit

def yv : Value → Option Bool
  | .bool b => some b
  | _ => none
def newK {R : Type} (cs : List Value) (H : AH) (k : Value → AH → Option R) : Option R := k (.pointer (some ⟨H.size, 0, none⟩)) (H.push (.cells false cs))
def rowK {R : Type} (len e : Nat) (cs : List Value) (H : AH) (k : Value → AH → Option R) : Option R := k (.slice (some ⟨H.size, 0, none⟩) len e) (H.push (.cells false cs))
def mapK {R : Type} (H : AH) (k : Value → AH → Option R) : Option R := k (.map (some H.size)) (H.push (.map [] 0))
def lenK {R : Type} (x : Value) (k : Value → Option R) : Option R :=
  match x with
  | .slice _ n _ => k (.int .i64 n)
  | _ => none
def lenSK {R : Type} (x : Value) (k : Value → Option R) : Option R :=
  match x with
  | .string s => k (.int .i64 s.size)
  | _ => none
/-- A length, held against itself. -/
def lenR (x : Value) : Option Value :=
  match x with
  | .slice _ _ _ => pLen x
  | _ => none
def lenRS (x : Value) : Option Value :=
  match x with
  | .string _ => pLen x
  | _ => none
def condK {R : Type} (c : Value) (x y : Option R) : Option R :=
  match c with
  | .bool true => x
  | .bool false => y
  | _ => none
/-- What is done where a guard says so. -/
def onK {α : Type} (y : Option Bool) (want : Bool) (a b : Option α) : Option α :=
  match y == some want with
  | true => a
  | false => b
theorem onK_b {α : Type} (c want : Bool) (a b : Option α) : onK (yv (.bool c)) want a b = if c = want then a else b := by cases c <;> cases want <;> rfl
theorem onK_tt {α : Type} (a b : Option α) : onK (yv (.bool true)) true a b = a := rfl
theorem onK_ft {α : Type} (a b : Option α) : onK (yv (.bool false)) true a b = b := rfl
theorem onK_tf {α : Type} (a b : Option α) : onK (yv (.bool true)) false a b = b := rfl
theorem onK_ff {α : Type} (a b : Option α) : onK (yv (.bool false)) false a b = a := rfl
theorem pick_t (a b : Value) : pPick (.bool true) a b = some a := rfl
theorem pick_f (a b : Value) : pPick (.bool false) a b = some b := rfl
theorem cond_t {R : Type} (a b : Option R) : condK (.bool true) a b = a := rfl
theorem cond_f {R : Type} (a b : Option R) : condK (.bool false) a b = b := rfl
abbrev vi (n : Int) : Value := .int .i64 n
abbrev vw (n : Int) : Value := .int .u64 n
abbrev vu (n : Nat) : Value := .int .u64 (n : Int)
abbrev vb (b : Bool) : Value := .bool b
/-- Ways to a place: not nil; a field; an element of a slice, of an array. -/
inductive Stp where
  | n
  | f (k : Nat)
  | i (e : Nat) (v : Value)
  | a (len e : Nat) (v : Value)
def ad {R : Type} : List Stp → Value → (Value → Option R) → Option R
  | [], a, k => k a
  | .n :: p, a, k => (pNil a).bind fun a => ad p a k
  | .f o :: p, a, k => (pFld o a).bind fun a => ad p a k
  | .i e v :: p, a, k => (pIdx e a v).bind fun a => ad p a k
  | .a len e v :: p, a, k => (pIdxA len e a v).bind fun a => ad p a k
def ld {R : Type} (p : List Stp) (x : Value) (H : AH) (k : Value → Option R) : Option R := ad p x fun a => (pLd1 a H).bind k
def ldN {R : Type} (n : Nat) (p : List Stp) (x : Value) (H : AH) (k : Value → Option R) : Option R := ad p x fun a => (pLdN n a H).bind k
def st {R : Type} (n : Nat) (p : List Stp) (x v : Value) (H : AH) (k : AH → Option R) : Option R := ad p x fun a => (pSt n a v H).bind k
/-- A look, and something that is done, where a guard says so. -/
def gB (c : Value) (want : Bool) (e : Option Value) : Option Value := onK (yv c) want (e.bind some) (some undef)
def gV (c : Value) (want : Bool) (e : Value) : Option Value := onK (yv c) want (some e) (some undef)
def gE (c : Value) (want : Bool) (H : AH) (e : Option (Value × AH)) : Option (Value × AH) := onK (yv c) want e (some (undef, H))
def gad {R : Type} (c : Value) (want : Bool) : List Stp → Value → (Value → Option R) → Option R
  | [], a, k => k a
  | .n :: p, a, k => (gB c want (pNil a)).bind fun a => gad c want p a k
  | .f o :: p, a, k => (gB c want (pFld o a)).bind fun a => gad c want p a k
  | .i e v :: p, a, k => (gB c want (pIdx e a v)).bind fun a => gad c want p a k
  | .a len e v :: p, a, k => (gB c want (pIdxA len e a v)).bind fun a => gad c want p a k
def gld {R : Type} (c : Value) (want : Bool) (p : List Stp) (x : Value) (H : AH) (k : Value → Option R) : Option R := gad c want p x fun a => (gB c want (pLd1 a H)).bind k
def gldN {R : Type} (c : Value) (want : Bool) (n : Nat) (p : List Stp) (x : Value) (H : AH) (k : Value → Option R) : Option R := gad c want p x fun a => (gB c want (pLdN n a H)).bind k
/-- The parts of a thing: where they stand. -/
def mkS {R : Type} (ps : List (Nat × Nat)) (zero : List Value) (xs : List (Nat × Value)) (k : Value → Option R) : Option R := (pFill (fun i => ps[i]?) zero xs).bind fun cs => k (.agg cs.toArray)
/-- The parts laid where they stand. -/
def offs (e : Nat) (i : Nat) : Option (Nat × Nat) := some (i * e, e)
def mkA {R : Type} (e : Nat) (zero : List Value) (xs : List (Nat × Value)) (k : Value → Option R) : Option R := (pFill (offs e) zero xs).bind fun cs => k (.agg cs.toArray)
/-- A new row. -/
def mkR {R : Type} (len e : Nat) (zero : List Value) (xs : List (Nat × Value)) (H : AH) (k : Value → AH → Option R) : Option R := (pFill (offs e) (List.replicate len zero).flatten xs).bind fun cs => rowK len e cs H k
def opsOf : Code → Array Oper
  | .region _ ops _ => ops
  | _ => #[]
end Go.Proofs.YthagelbepgcolaaGreatDoor.Gst
/- Slots that nobody looks at any more. -/
namespace Go.Proofs.YthagelbepgcolaaGreatDoor.Gst
open Go Go.RowKit
set_option linter.unusedSimpArgs false

/-- Alike but for the dead slots (the bits of a number). -/
def Agree (D : Nat) (A A' : List Value) : Prop := A.length = A'.length ∧ ∀ t, D.testBit t = false → A[t]? = A'[t]?

def clearFrom (D : Nat) : Nat → List Value → List Value
  | _, [] => []
  | i, v :: vs => (match D.testBit i with | true => undef | false => v) :: clearFrom D (i + 1) vs
def clear (D : Nat) (A : List Value) : List Value := clearFrom D 0 A

theorem clearFrom_length (D : Nat) : ∀ (A : List Value) (i : Nat), (clearFrom D i A).length = A.length := by
  intro A
  induction A with
  | nil => intro i; rfl
  | cons v vs ih => intro i; simp [clearFrom, ih]
theorem clearFrom_get (D : Nat) : ∀ (A : List Value) (i t : Nat), D.testBit (i + t) = false → (clearFrom D i A)[t]? = A[t]? := by
  intro A
  induction A with
  | nil => intro i t _; rfl
  | cons v vs ih =>
    intro i t h
    cases t with
    | zero => simp only [Nat.add_zero] at h; simp [clearFrom, h]
    | succ t => simp only [clearFrom, List.getElem?_cons_succ]; exact ih (i + 1) t (by rw [show i + 1 + t = i + (t + 1) from by omega]; exact h)
theorem clear_agree (D : Nat) (A : List Value) : Agree D A (clear D A) := ⟨(clearFrom_length D A 0).symm, fun t h => (clearFrom_get D A 0 t (by simpa using h)).symm⟩

/-- What goes on does not look at the dead slots. -/
def Resp {R : Type} (D : Nat) (k : List Value → AH → Option R) : Prop := ∀ A A' H, Agree D A A' → k A H = k A' H

def opr (D : Nat) : Operand → Bool
  | .tmp t => !D.testBit t
  | _ => true
def wipe (D : Nat) : Option Tmp → Nat
  | some d => match D.testBit d with | true => D ^^^ 2 ^ d | false => D
  | none => D
theorem wipe_le {D : Nat} {d : Option Tmp} {t : Nat} (h : D.testBit t = false) : (wipe D d).testBit t = false := by
  unfold wipe
  split
  · split
    · rename_i hd
      rw [Nat.testBit_xor, h, Nat.testBit_two_pow]
      simp
      intro e
      subst e; rw [h] at hd; cases hd
    · exact h
  · exact h
theorem wipe_self {D d : Nat} : (wipe D (some d)).testBit d = false := by
  unfold wipe
  simp only
  split
  · rename_i h; rw [Nat.testBit_xor, h, Nat.testBit_two_pow]; simp
  · rename_i h; exact h
theorem wipe_ne {D : Nat} {d : Option Tmp} {t : Nat} (h : (wipe D d).testBit t = false) (hd : d ≠ some t) : D.testBit t = false := by
  unfold wipe at h
  split at h
  · rename_i d
    split at h
    · rename_i hb
      rw [Nat.testBit_xor, Nat.testBit_two_pow] at h
      have : ¬ d = t := fun e => hd (by rw [e])
      simpa [this] using h
    · exact h
  · exact h

def okOper (D : Nat) (ops : Array Oper) (o : Oper) : Bool :=
  o.op.operands.toList.all (opr D) && match o.guard with
  | none => true
  | some g => match (ops[g.1]?).bind (·.dst) with
    | some t => !D.testBit t
    | none => true
def okOps (ops : Array Oper) : List Oper → Nat → Option Nat
  | [], D => some D
  | o :: rest, D => match okOper D ops o with
    | true => okOps ops rest (wipe D o.dst)
    | false => none

/-- The slots that are still dead behind a text that looks at none of them; none: it looks at one. -/
def okC : Code → Nat → Option Nat
  | .skip, D => some D
  | .label _, D => some D
  | .region _ ops _, D => okOps ops ops.toList D
  | .seq x y, D => match okC x D with
    | some D1 => match okC y D1 with
      | some D2 => some D2
      | none => none
    | none => none
  | .cond c x y, D => match opr D c with
    | true => match okC x D, okC y D with
      | some D1, some D2 => some (D1 ||| D2)
      | _, _ => none
    | false => none
  | .block _ x, D => match okC x D with
    | some _ => some D
    | none => none
  | .loop x, D => match okC x D with
    | some _ => some D
    | none => none
  | .exit _, _ => some 0
  | .ret, _ => some 0
  | _, _ => none

section
variable {P : Program} {G : List Nat} {call : CallF} {R : Type}

theorem Agree.mono {D D' : Nat} {A A' : List Value} (h : Agree D A A') (hm : ∀ t, D'.testBit t = false → D.testBit t = false) : Agree D' A A' := ⟨h.1, fun t ht => h.2 t (hm t ht)⟩
theorem Agree.ev {D : Nat} {A A' : List Value} (h : Agree D A A') {x : Operand} (hx : opr D x = true) : aEv A x = aEv A' x := by
  cases x with
  | tmp t => simp only [opr, Bool.not_eq_true'] at hx; simp only [aEv]; rw [h.2 t hx]
  | _ => rfl
theorem Agree.put {D : Nat} {A A' : List Value} (h : Agree D A A') (d : Option Tmp) (v : Value) : Agree (wipe D d) (aPut A d v) (aPut A' d v) := by
  refine ⟨by rw [aPut_length, aPut_length, h.1], fun t ht => ?_⟩
  by_cases hd : d = some t
  · subst hd; rw [aPut_eq, aPut_eq, h.1]
  · rw [aPut_ne hd, aPut_ne hd]; exact h.2 t (wipe_ne ht hd)

theorem okOps_le {ops : Array Oper} : ∀ {l : List Oper} {D D' : Nat}, okOps ops l D = some D' → ∀ t, D.testBit t = false → D'.testBit t = false := by
  intro l
  induction l with
  | nil => intro D D' h t ht; simp only [okOps] at h; cases h; exact ht
  | cons o l ih =>
    intro D D' h t ht
    simp only [okOps] at h
    split at h
    · exact ih h t (wipe_le ht)
    · cases h
theorem okC_le : ∀ {c : Code} {D D' : Nat}, okC c D = some D' → ∀ t, D.testBit t = false → D'.testBit t = false := by
  intro c
  induction c with
  | skip => intro D D' h t ht; simp only [okC] at h; cases h; exact ht
  | label l => intro D D' h t ht; simp only [okC] at h; cases h; exact ht
  | region id ops draw => intro D D' h; simp only [okC] at h; exact okOps_le h
  | seq x y ihx ihy =>
    intro D D' h t ht
    simp only [okC] at h
    split at h
    · rename_i D1 h1
      split at h
      · rename_i D2 h2; cases h; exact ihy h2 t (ihx h1 t ht)
      · cases h
    · cases h
  | cond c x y ihx ihy =>
    intro D D' h t ht
    simp only [okC] at h
    split at h
    · split at h
      · rename_i D1 D2 h1 h2; cases h
        rw [Nat.testBit_or, ihx h1 t ht, ihy h2 t ht]; rfl
      · cases h
    · cases h
  | block id x ih => intro D D' h t ht; simp only [okC] at h; split at h <;> cases h; exact ht
  | loop x ih => intro D D' h t ht; simp only [okC] at h; split at h <;> cases h; exact ht
  | exit id => intro D D' h t ht; simp only [okC] at h; cases h; simp
  | ret => intro D D' h t ht; simp only [okC] at h; cases h; simp
  | rangeFunc => intro D D' h; simp [okC] at h
  | scope => intro D D' h; simp [okC] at h
  | goto => intro D D' h; simp [okC] at h
  | refuse => intro D D' h; simp [okC] at h

/-- Both come to nothing, or to lists that are alike, and one heap. -/
inductive Both (D : Nat) : Option (List Value × AH) → Option (List Value × AH) → Prop
  | no : Both D none none
  | yes {A A' : List Value} (H : AH) (h : Agree D A A') : Both D (some (A, H)) (some (A', H))

theorem step_both {ops : Array Oper} {o : Oper} {D : Nat} (ho : okOper D ops o = true) {A A' : List Value} (h : Agree D A A') (H : AH) : Both (wipe D o.dst) (aStep P G call ops o A H) (aStep P G call ops o A' H) := by
  unfold okOper at ho
  simp only [Bool.and_eq_true] at ho
  have hev : ∀ x ∈ o.op.operands.toList, aEv A x = aEv A' x := fun x hx => h.ev (List.all_eq_true.1 ho.1 x hx)
  have hw : Region.wanted o (aYield ops A) = Region.wanted o (aYield ops A') := by
    unfold Region.wanted
    cases hg : o.guard with
    | none => rfl
    | some g =>
      obtain ⟨g, want⟩ := g
      rw [hg] at ho
      have hy : aYield ops A g = aYield ops A' g := by
        unfold aYield
        cases hd : (ops[g]?).bind (·.dst) with
        | none => rfl
        | some t =>
          have h2 := ho.2
          simp only [hd, Bool.not_eq_true'] at h2
          simp only [Option.bind_some]
          rw [h.2 t h2]
      simp only [hy]
  unfold aStep
  rw [hw, aOp_congr hev H]
  split
  · split
    · cases aOp P call (aEv A') o H with
      | none => exact .no
      | some r => exact .yes r.2 (h.put o.dst r.1)
    · exact .yes H (h.put o.dst undef)
  · exact .no

theorem ops_both {ops : Array Oper} : ∀ {l : List Oper} {D D' : Nat}, okOps ops l D = some D' → ∀ {A A' : List Value}, Agree D A A' → ∀ H, Both D' (aOps P G call ops l A H) (aOps P G call ops l A' H) := by
  intro l
  induction l with
  | nil => intro D D' h A A' hA H; simp only [okOps] at h; cases h; exact .yes H hA
  | cons o l ih =>
    intro D D' h A A' hA H
    simp only [okOps] at h
    split at h
    · rename_i ho
      simp only [aOps]
      have := step_both (P := P) (G := G) (call := call) ho hA H
      generalize aStep P G call ops o A H = x at this
      generalize aStep P G call ops o A' H = y at this
      cases this with
      | no => exact .no
      | yes H1 hA1 => exact ih h hA1 H1
    · cases h

theorem okOps_take {ops : Array Oper} : ∀ {l : List Oper} {D D' : Nat}, okOps ops l D = some D' → ∀ i, ∃ Di, okOps ops (l.take i) D = some Di ∧ ∀ o, l[i]? = some o → okOper Di ops o = true := by
  intro l
  induction l with
  | nil => intro D D' h i; exact ⟨D, by cases i <;> rfl, fun o ho => by simp at ho⟩
  | cons o l ih =>
    intro D D' h i
    simp only [okOps] at h
    split at h
    · rename_i ho
      cases i with
      | zero => exact ⟨D, rfl, fun o' ho' => by simp at ho'; subst ho'; exact ho⟩
      | succ i =>
        obtain ⟨Di, h1, h2⟩ := ih h i
        refine ⟨Di, ?_, fun o' ho' => h2 o' (by simpa using ho')⟩
        simp only [List.take_succ_cons, okOps, ho]
        exact h1
    · cases h

theorem draw_both {ops : Array Oper} {D D' : Nat} (h : okOps ops ops.toList D = some D') {A A' : List Value} (hA : Agree D A A') (H : AH) : Both D' (aDraw P G call ops A H) (aDraw P G call ops A' H) := by
  unfold aDraw
  split
  · exact .no
  · split
    · exact ops_both h hA H
    · rename_i p ps hp
      have hb := ops_both (P := P) (G := G) (call := call) h hA H
      have key : aOps P G call ops ops.toList A H ≠ none → ((∀ q ∈ p :: ps, lookOK P (stA P G call ops A H) ops q) ↔ ∀ q ∈ p :: ps, lookOK P (stA P G call ops A' H) ops q) := by
        intro hne
        have hst : ∀ i, ∃ Di, Agree Di (stA P G call ops A H i).1 (stA P G call ops A' H i).1 ∧ (stA P G call ops A H i).2 = (stA P G call ops A' H i).2 ∧ ∀ o, ops[i]? = some o → okOper Di ops o = true := by
          intro i
          obtain ⟨Di, h1, h2⟩ := okOps_take h i
          have hbi := ops_both (P := P) (G := G) (call := call) h1 hA H
          cases hx : aOps P G call ops ops.toList A H with
          | none => exact absurd hx hne
          | some r =>
            have h3 := stA_take hx i
            rw [h3] at hbi
            unfold stA at hbi ⊢
            rw [h3] at hbi ⊢
            generalize aOps P G call ops (ops.toList.take i) A' H = y at hbi
            simp only [Option.getD_some] at hbi ⊢
            generalize hz : stA P G call ops A H i = z at hbi
            unfold stA at hz
            rw [h3] at hz
            simp only [Option.getD_some] at hz
            cases hbi with
            | yes H1 hA1 =>
              exact ⟨Di, hA1, rfl, fun o ho => h2 o (by simpa using ho)⟩
        have one : ∀ q, lookOK P (stA P G call ops A H) ops q ↔ lookOK P (stA P G call ops A' H) ops q := by
          intro q
          unfold lookOK
          obtain ⟨D1, a1, e1, o1⟩ := hst q.1
          obtain ⟨D2, a2, e2, o2⟩ := hst (if q.2 < q.1 then q.2 else q.2 + 1)
          constructor
          · intro hl o ho
            have hev : ∀ x ∈ o.op.operands.toList, aEv (stA P G call ops A H q.1).1 x = aEv (stA P G call ops A' H q.1).1 x := fun x hx => a1.ev (by
              have := o1 o ho
              unfold okOper at this
              simp only [Bool.and_eq_true] at this
              exact List.all_eq_true.1 this.1 x hx)
            have := hl o ho
            rw [aRd_congr hev, aRd_congr hev, e1, e2] at this
            exact this
          · intro hl o ho
            have hev : ∀ x ∈ o.op.operands.toList, aEv (stA P G call ops A H q.1).1 x = aEv (stA P G call ops A' H q.1).1 x := fun x hx => a1.ev (by
              have := o1 o ho
              unfold okOper at this
              simp only [Bool.and_eq_true] at this
              exact List.all_eq_true.1 this.1 x hx)
            rw [aRd_congr hev, aRd_congr hev, e1, e2]
            exact hl o ho
        exact ⟨fun hl q hq => (one q).1 (hl q hq), fun hl q hq => (one q).2 (hl q hq)⟩
      have hn : aOps P G call ops ops.toList A H = none → aOps P G call ops ops.toList A' H = none := by
        intro e; rw [e] at hb; generalize aOps P G call ops ops.toList A' H = y at hb; cases hb; rfl
      by_cases hne : aOps P G call ops ops.toList A H = none
      · rw [hne, hn hne]
        unfold chk
        have : ∀ (c : Prop) [Decidable c], (if c then (none : Option (List Value × AH)) else none) = none := fun c _ => by split <;> rfl
        rw [this, this]; exact .no
      · unfold chk
        by_cases hc : ∀ q ∈ p :: ps, lookOK P (stA P G call ops A H) ops q
        · rw [if_pos hc, if_pos ((key hne).1 hc)]; exact hb
        · rw [if_neg hc, if_neg (fun h => hc ((key hne).2 h))]; exact .no

/-- Both come to nothing, or both the same way out, with lists that are alike. -/
inductive BothR (D D' : Nat) : Option AR → Option AR → Prop
  | no : BothR D D' none none
  | normal {A A' : List Value} (H : AH) (h : Agree D' A A') : BothR D D' (some (.normal, A, H)) (some (.normal, A', H))
  | exit (i : Nat) {A A' : List Value} (H : AH) (h : Agree D A A') : BothR D D' (some (.exit i, A, H)) (some (.exit i, A', H))
  | ret {A A' : List Value} (H : AH) (h : Agree D A A') : BothR D D' (some (.ret, A, H)) (some (.ret, A', H))

theorem code_both : ∀ {c : Code} {D D' : Nat}, okC c D = some D' → ∀ {A A' : List Value}, Agree D A A' → ∀ H, BothR D D' (aCode P G call c A H) (aCode P G call c A' H) := by
  intro c
  induction c with
  | skip => intro D D' h A A' hA H; simp only [okC] at h; cases h; exact .normal H hA
  | label l => intro D D' h A A' hA H; simp only [okC] at h; cases h; exact .normal H hA
  | exit id => intro D D' h A A' hA H; exact .exit id H hA
  | ret => intro D D' h A A' hA H; exact .ret H hA
  | region id ops draw =>
    intro D D' h A A' hA H
    simp only [okC] at h
    simp only [aCode]
    have hb : Both D' (aRegion P G call ops draw A H) (aRegion P G call ops draw A' H) := by
      cases draw with
      | true => exact draw_both h hA H
      | false => exact ops_both h hA H
    generalize aRegion P G call ops draw A H = x at hb
    generalize aRegion P G call ops draw A' H = y at hb
    cases hb with
    | no => exact .no
    | yes H1 hA1 => exact .normal H1 hA1
  | seq x y ihx ihy =>
    intro D D' h A A' hA H
    simp only [okC] at h
    split at h
    · rename_i D1 h1
      split at h
      · rename_i D2 h2
        cases h
        simp only [aCode]
        have hb := ihx h1 hA H
        generalize aCode P G call x A H = u at hb
        generalize aCode P G call x A' H = v at hb
        cases hb with
        | no => exact .no
        | normal H1 hA1 =>
          have hb2 := ihy h2 hA1 H1
          simp only [Option.bind_some]
          rename_i A1 A1'
          generalize aCode P G call y A1 H1 = u at hb2
          generalize aCode P G call y A1' H1 = v at hb2
          cases hb2 with
          | no => exact .no
          | normal H2 hA2 => exact .normal H2 hA2
          | exit i H2 hA2 => exact .exit i H2 (hA2.mono (fun t ht => okC_le h1 t ht))
          | ret H2 hA2 => exact .ret H2 (hA2.mono (fun t ht => okC_le h1 t ht))
        | exit i H1 hA1 => exact .exit i H1 hA1
        | ret H1 hA1 => exact .ret H1 hA1
      · cases h
    · cases h
  | cond c x y ihx ihy =>
    intro D D' h A A' hA H
    simp only [okC] at h
    split at h
    · rename_i hc
      split at h
      · rename_i D1 D2 h1 h2
        cases h
        simp only [aCode]
        rw [hA.ev hc]
        have m1 : ∀ t, (D1 ||| D2).testBit t = false → D1.testBit t = false := fun t ht => by rw [Nat.testBit_or, Bool.or_eq_false_iff] at ht; exact ht.1
        have m2 : ∀ t, (D1 ||| D2).testBit t = false → D2.testBit t = false := fun t ht => by rw [Nat.testBit_or, Bool.or_eq_false_iff] at ht; exact ht.2
        generalize aEv A' c = v
        cases v with
        | bool b =>
          cases b with
          | true =>
            have hb := ihx h1 hA H
            simp only
            generalize aCode P G call x A H = u at hb
            generalize aCode P G call x A' H = v at hb
            cases hb with
            | no => exact .no
            | normal H1 hA1 => exact .normal H1 (hA1.mono m1)
            | exit i H1 hA1 => exact .exit i H1 hA1
            | ret H1 hA1 => exact .ret H1 hA1
          | false =>
            have hb := ihy h2 hA H
            simp only
            generalize aCode P G call y A H = u at hb
            generalize aCode P G call y A' H = v at hb
            cases hb with
            | no => exact .no
            | normal H1 hA1 => exact .normal H1 (hA1.mono m2)
            | exit i H1 hA1 => exact .exit i H1 hA1
            | ret H1 hA1 => exact .ret H1 hA1
        | _ => exact .no
      · cases h
    · cases h
  | block id x ih =>
    intro D D' h A A' hA H
    simp only [okC] at h
    split at h <;> cases h
    rename_i D1 h1
    simp only [aCode]
    have hb := ih h1 hA H
    generalize aCode P G call x A H = u at hb
    generalize aCode P G call x A' H = v at hb
    cases hb with
    | no => exact .no
    | normal H1 hA1 => exact .normal H1 (hA1.mono (fun t ht => okC_le h1 t ht))
    | exit i H1 hA1 =>
      simp only [Option.map_some]
      split
      · exact .normal H1 hA1
      · exact .exit i H1 hA1
    | ret H1 hA1 => exact .ret H1 hA1
  | loop x ih =>
    intro D D' h A A' hA H
    simp only [okC] at h
    split at h <;> cases h
    rename_i D1 h1
    simp only [aCode]
    have it : ∀ n {A A' : List Value} (H : AH), Agree D A A' → BothR D D (aIter (aCode P G call x) n A H) (aIter (aCode P G call x) n A' H) := by
      intro n
      induction n with
      | zero => intro A A' H _; exact .no
      | succ n ihn =>
        intro A A' H hA
        simp only [aIter]
        have hb := ih h1 hA H
        generalize aCode P G call x A H = u at hb
        generalize aCode P G call x A' H = v at hb
        cases hb with
        | no => exact .no
        | normal H1 hA1 => exact ihn H1 (hA1.mono (fun t ht => okC_le h1 t ht))
        | exit i H1 hA1 => exact .exit i H1 hA1
        | ret H1 hA1 => exact .ret H1 hA1
    cases hl : aLoop (aCode P G call x) A H with
    | some r =>
      obtain ⟨n, hn⟩ := aLoop_iff.1 hl
      have hb := it n H hA
      rw [hn] at hb
      cases hm : aIter (aCode P G call x) n A' H with
      | none => rw [hm] at hb; cases hb
      | some r' =>
        rw [aLoop_iff.2 ⟨n, hm⟩]
        rw [hm] at hb
        exact hb
    | none =>
      cases hl' : aLoop (aCode P G call x) A' H with
      | none => exact .no
      | some r' =>
        obtain ⟨n, hn⟩ := aLoop_iff.1 hl'
        have hb := it n H hA
        rw [hn] at hb
        cases hm : aIter (aCode P G call x) n A H with
        | none => rw [hm] at hb; cases hb
        | some r => rw [aLoop_iff.2 ⟨n, hm⟩] at hl; cases hl
  | rangeFunc => intro D D' h; simp [okC] at h
  | scope => intro D D' h; simp [okC] at h
  | goto => intro D D' h; simp [okC] at h
  | refuse => intro D D' h; simp [okC] at h

/-- Dead for what comes behind, dead ahead of the text that does not look at them. -/
def subB (D D' : Nat) : Bool := D ||| D' == D'
theorem subB_le {D D' : Nat} (h : subB D D' = true) : ∀ t, D'.testBit t = false → D.testBit t = false := by
  intro t ht
  unfold subB at h
  have e : D ||| D' = D' := by simpa using h
  rw [← e, Nat.testBit_or, Bool.or_eq_false_iff] at ht
  exact ht.1
theorem Resp.le {D D' : Nat} {k : List Value → AH → Option R} (h : Resp D' k) (hs : subB D D' = true) : Resp D k := fun A A' H hA => h A A' H (hA.mono (subB_le hs))

def okInto (c : Code) (D D' : Nat) : Bool := match okC c D with
  | some D1 => subB D1 D'
  | none => false

theorem resp_code {c : Code} {D D' : Nat} {kn : List Value → AH → Option R} {kx : Nat → List Value → AH → Option R} {kr : List Value → AH → Option R} (h : okInto c D D' = true) (hn : Resp D' kn) (hx : ∀ i, Resp D (kx i)) (hr : Resp D kr) :
    Resp D (fun A H => cCode P G call c A H kn kx kr) := by
  intro A A' H hA
  unfold okInto at h
  split at h
  · rename_i D1 h1
    simp only
    rw [cCode_eq, cCode_eq]
    have hb := code_both (P := P) (G := G) (call := call) h1 hA H
    generalize aCode P G call c A H = u at hb
    generalize aCode P G call c A' H = v at hb
    cases hb with
    | no => rfl
    | normal H1 hA1 => exact hn _ _ H1 (hA1.mono (subB_le h))
    | exit i H1 hA1 => exact hx i _ _ H1 hA1
    | ret H1 hA1 => exact hr _ _ H1 hA1
  · cases h

theorem resp_loop {c : Code} {D : Nat} {kx : Nat → List Value → AH → Option R} {kr : List Value → AH → Option R} (h : okInto c D D = true) (hx : ∀ i, Resp D (kx i)) (hr : Resp D kr) :
    Resp D (fun A H => cLoop P G call c A H kx kr) := by
  intro A A' H hA
  unfold okInto at h
  split at h
  · rename_i D1 h1
    have hb := code_both (P := P) (G := G) (call := call) (c := .loop c) (D := D) (D' := D) (by simp only [okC, h1]) hA H
    simp only [aCode] at hb
    simp only [cLoop]
    generalize aLoop (aCode P G call c) A H = u at hb
    generalize aLoop (aCode P G call c) A' H = v at hb
    cases hb with
    | no => rfl
    | normal H1 hA1 => rfl
    | exit i H1 hA1 => exact hx i _ _ H1 hA1
    | ret H1 hA1 => exact hr _ _ H1 hA1
  · cases h

def okRes (D : Nat) (rs : List ResultVar) : Bool := rs.all fun r => match r with
  | .tmp t => !D.testBit t
  | .cell a _ => !D.testBit a
theorem resp_many {D : Nat} : ∀ {rs : List ResultVar} (_ : okRes D rs = true) (k : List Value → AH → Option R), Resp D (fun A H => cMany P A H rs fun vs => k vs H) := by
  intro rs
  induction rs with
  | nil => intro _ k A A' H hA; rfl
  | cons r rs ih =>
    intro h k A A' H hA
    unfold okRes at h
    simp only [List.all_cons, Bool.and_eq_true] at h
    cases r with
    | tmp t =>
      simp only [Bool.not_eq_true'] at h
      simp only [cMany]
      rw [hA.2 t h.1]
      exact ih h.2 (fun vs H => k ((A'[t]?.getD undef) :: vs) H) A A' H hA
    | cell a t =>
      simp only [Bool.not_eq_true'] at h
      simp only [cMany]
      rw [hA.2 a h.1, tb_eq, tb_eq]
      congr 1
      funext g
      cases g <;> (simp only; congr 1; funext v; exact ih h.2 (fun vs H => k (v :: vs) H) A A' H hA)
theorem resp_fin {D : Nat} {rs : List ResultVar} (h : okRes D rs = true) : Resp D (cFin P rs) := resp_many h fun vs H => some (tup vs, H)
theorem resp_none {D : Nat} : Resp D (fun (_ : List Value) (_ : AH) => (none : Option R)) := fun _ _ _ _ => rfl
theorem resp_block {D id : Nat} {kn : List Value → AH → Option R} {kx : Nat → List Value → AH → Option R} (hn : Resp D kn) (hx : ∀ i, Resp D (kx i)) : ∀ i, Resp D (fun A H => if i = id then kn A H else kx i A H) := by
  intro i A A' H hA
  simp only
  split
  · exact hn _ _ _ hA
  · exact hx i _ _ _ hA

theorem resp_clear {D : Nat} {n : List Value → AH → Option R} (h : Resp D n) : Resp D (fun A H => n (clear D A) H) := by
  intro A A' H hA
  simp only
  rw [← h A (clear D A) H (clear_agree D A), ← h A' (clear D A') H (clear_agree D A')]
  exact h A A' H hA
theorem exit_here {id : Nat} {n : Nat → List Value → AH → Option R} {kn : List Value → AH → Option R} {kx : Nat → List Value → AH → Option R} {A : List Value} {H : AH} (hn : n = fun i A H => if i = id then kn A H else kx i A H) : n id A H = kn A H := by
  subst hn; simp
theorem exit_on {id i : Nat} {n : Nat → List Value → AH → Option R} {kn : List Value → AH → Option R} {kx : Nat → List Value → AH → Option R} {A : List Value} {H : AH} (hn : n = fun i A H => if i = id then kn A H else kx i A H) (h : (i == id) = false) : n i A H = kx i A H := by
  subst hn
  have : ¬ i = id := by simpa using h
  simp [this]

/-! ### The parts of a text, one by one -/
variable {A : List Value} {H : AH} {kn : List Value → AH → Option R} {kx : Nat → List Value → AH → Option R} {kr : List Value → AH → Option R}
theorem seq_at {c x y : Code} (h : c = .seq x y) : cCode P G call c A H kn kx kr = cCode P G call x A H (fun A H => cCode P G call y A H kn kx kr) kx kr := by subst h; rfl
theorem seq_clear {c x y : Code} (h : c = .seq x y) {D : Nat} {n : List Value → AH → Option R} (hn : n = fun A H => cCode P G call y A H kn kx kr) (hD : Resp D n) :
    cCode P G call c A H kn kx kr = cCode P G call x A H (fun A H => n (clear D A) H) kx kr := by
  subst h
  have e : (fun A H => n (clear D A) H) = n := by
    funext A H
    exact (hD A (clear D A) H (clear_agree D A)).symm
  rw [e, hn]; try rfl
theorem cond_at {c x y : Code} {e : Operand} (h : c = .cond e x y) : cCode P G call c A H kn kx kr = condK (aEv A e) (cCode P G call x A H kn kx kr) (cCode P G call y A H kn kx kr) := by subst h; rfl
theorem block_at {c x : Code} {id : Nat} (h : c = .block id x) : cCode P G call c A H kn kx kr = cCode P G call x A H kn (fun i A H => if i = id then kn A H else kx i A H) kr := by subst h; rfl
theorem block_clear {c x : Code} {id : Nat} (h : c = .block id x) {D : Nat} {n : Nat → List Value → AH → Option R} (hn : n = fun i A H => if i = id then kn A H else kx i A H) (hD : ∀ i, Resp D (n i)) :
    cCode P G call c A H kn kx kr = cCode P G call x A H kn (fun i A H => n i (clear D A) H) kr := by
  subst h
  have e : (fun i A H => n i (clear D A) H) = n := by
    funext i A H
    exact (hD i A (clear D A) H (clear_agree D A)).symm
  rw [e, hn]; try rfl
theorem loop_at {c x : Code} (h : c = .loop x) : cCode P G call c A H kn kx kr = cLoop P G call x A H kx kr := by subst h; rfl
theorem loop_slots {x : Code} {D : Nat} {n : List Value → AH → Option R} (hn : n = fun A H => cLoop P G call x A H kx kr) (hD : Resp D n) : cLoop P G call x A H kx kr = n (clear D A) H := by
  have := hD A (clear D A) H (clear_agree D A)
  rw [← this, hn]
theorem loop_clear {x : Code} {D : Nat} {n : List Value → AH → Option R} (hn : n = fun A H => cLoop P G call x A H kx kr) (hD : Resp D n) :
    cLoop P G call x A H kx kr = cCode P G call x A H (fun A H => n (clear D A) H) kx kr := by
  have e : (fun A H => n (clear D A) H) = n := by
    funext A H
    exact (hD A (clear D A) H (clear_agree D A)).symm
  rw [e, hn]; exact cLoop_eq ..

/-! ### The same, from a name to what is printed of it -/
/-- The first statements of a text, and the others. -/
def Code.pre : Nat → Code → Code
  | 0, .seq x _ => x
  | k + 1, .seq x y => .seq x (Code.pre k y)
  | _, c => c
def Code.post : Nat → Code → Code
  | 0, .seq _ y => y
  | k + 1, .seq _ y => Code.post k y
  | _, _ => .skip
theorem pre_at : ∀ (k : Nat) (c : Code) (A : List Value) (H : AH), cCode P G call c A H kn kx kr = cCode P G call (Code.pre k c) A H (fun A H => cCode P G call (Code.post k c) A H kn kx kr) kx kr := by
  intro k
  induction k with
  | zero => intro c A H; cases c <;> rfl
  | succ k ih =>
    intro c A H
    cases c with
    | seq x y =>
      have e : (fun A H => cCode P G call y A H kn kx kr) = fun A H => cCode P G call (Code.pre k y) A H (fun A H => cCode P G call (Code.post k y) A H kn kx kr) kx kr := by
        funext A H; exact ih y A H
      show cCode P G call x A H (fun A H => cCode P G call y A H kn kx kr) kx kr = _
      rw [e]; rfl
    | _ => rfl
variable {l T : Option R}
theorem pre_to {c : Code} {k D : Nat} {n : List Value → AH → Option R} (h0 : l = cCode P G call c A H kn kx kr) (hn : n = fun A H => cCode P G call (Code.post k c) A H kn kx kr) (hD : Resp D n)
    (h1 : cCode P G call (Code.pre k c) A H (fun A H => n (clear D A) H) kx kr = T) : l = T := by
  have e : (fun A H => n (clear D A) H) = n := by
    funext A H
    exact (hD A (clear D A) H (clear_agree D A)).symm
  rw [e, hn] at h1
  exact h0.trans ((pre_at k c A H).trans h1)
theorem condK_to {v v' : Value} {x x' y y' : Option R} (h : v = v') (hx : x = x') (hy : y = y') : condK v x y = condK v' x' y' := by rw [h, hx, hy]
theorem cond_to {c x y : Code} {e : Operand} (h0 : l = cCode P G call c A H kn kx kr) (h : c = .cond e x y) (h1 : condK (aEv A e) (cCode P G call x A H kn kx kr) (cCode P G call y A H kn kx kr) = T) : l = T := h0.trans ((cond_at h).trans h1)
theorem block_to {c x : Code} {id D : Nat} {n : Nat → List Value → AH → Option R} (h0 : l = cCode P G call c A H kn kx kr) (h : c = .block id x) (hn : n = fun i A H => if i = id then kn A H else kx i A H) (hD : ∀ i, Resp D (n i))
    (h1 : cCode P G call x A H kn (fun i A H => n i (clear D A) H) kr = T) : l = T := h0.trans ((block_clear h hn hD).trans h1)
theorem loop_in {c x : Code} {D : Nat} {n : List Value → AH → Option R} (h0 : l = cCode P G call c A H kn kx kr) (h : c = .loop x) (hn : n = fun A H => cLoop P G call x A H kx kr) (hD : Resp D n) (h1 : n (clear D A) H = T) : l = T :=
  h0.trans ((loop_at h).trans ((loop_slots hn hD).trans h1))
theorem loop_to {x : Code} {D : Nat} {n : List Value → AH → Option R} (h0 : l = cLoop P G call x A H kx kr) (hn : n = fun A H => cLoop P G call x A H kx kr) (hD : Resp D n)
    (h1 : cCode P G call x A H (fun A H => n (clear D A) H) kx kr = T) : l = T := h0.trans ((loop_clear hn hD).trans h1)
theorem here_to {id : Nat} {n : Nat → List Value → AH → Option R} (h0 : l = n id A H) (hn : n = fun i A H => if i = id then kn A H else kx i A H) (h1 : kn A H = T) : l = T := h0.trans ((exit_here hn).trans h1)
theorem on_to {id i : Nat} {n : Nat → List Value → AH → Option R} (h0 : l = n i A H) (hn : n = fun i A H => if i = id then kn A H else kx i A H) (h : (i == id) = false) (h1 : kx i A H = T) : l = T := h0.trans ((exit_on hn h).trans h1)
end
abbrev OV := Option (Value × AH)
abbrev u : Value := undef

/-! ### What the printed texts are made of -/
abbrev KK := List Value → AH → OV
abbrev KX := Nat → List Value → AH → OV
noncomputable abbrev CK (P : Program) (G : List Nat) (call : CallF) (c : Code) (kn : KK) (kx : KX) (kr : KK) : KK := fun A H => cCode P G call c A H kn kx kr
noncomputable abbrev CL (P : Program) (G : List Nat) (call : CallF) (c : Code) (kx : KX) (kr : KK) : KK := fun A H => cLoop P G call c A H kx kr
abbrev BX (id : Nat) (kn : KK) (kx : KX) : KX := fun i A H => if i = id then kn A H else kx i A H
abbrev clr (D : Nat) (n : KK) : KK := fun A H => n (clear D A) H
abbrev clx (D : Nat) (n : KX) : KX := fun i A H => n i (clear D A) H
def kx0 : KX := fun _ _ _ => none
def fullD : Nat := 2 ^ 4096 - 1
/-- Slots: these, and so many that nobody has laid. -/
def ls (l : List Value) (n : Nat) : List Value := l ++ List.replicate n u
section
variable {P : Program} {G : List Nat} {call : CallF} {A : List Value} {H : AH} {kn : KK} {kx : KX} {kr : KK} {l T : OV}
theorem kx0_d : ∀ i, Resp fullD (kx0 i) := fun _ => resp_none
theorem rf {rs : List ResultVar} {D : Nat} (h : okRes D rs = true := by kernel_rfl) : Resp D (cFin P rs) := resp_fin h
theorem rc {c : Code} {D Dn Dx Dr : Nat} (hn : Resp Dn kn) (hx : ∀ i, Resp Dx (kx i)) (hr : Resp Dr kr) (h : (okInto c D Dn && (subB D Dx && subB D Dr)) = true := by kernel_rfl) : Resp D (CK P G call c kn kx kr) := by
  simp only [Bool.and_eq_true] at h
  exact resp_code h.1 hn (fun i => (hx i).le h.2.1) (hr.le h.2.2)
theorem rl {c : Code} {D Dx Dr : Nat} (hx : ∀ i, Resp Dx (kx i)) (hr : Resp Dr kr) (h : (okInto c D D && (subB D Dx && subB D Dr)) = true := by kernel_rfl) : Resp D (CL P G call c kx kr) := by
  simp only [Bool.and_eq_true] at h
  exact resp_loop h.1 (fun i => (hx i).le h.2.1) (hr.le h.2.2)
theorem rb {D id Dn Dx : Nat} (hn : Resp Dn kn) (hx : ∀ i, Resp Dx (kx i)) (h : (subB D Dn && subB D Dx) = true := by kernel_rfl) : ∀ i, Resp D (BX id kn kx i) := by
  simp only [Bool.and_eq_true] at h
  exact resp_block (hn.le h.1) (fun i => (hx i).le h.2)
theorem cd {D : Nat} {n : KK} (h : Resp D n) : Resp D (clr D n) := resp_clear h
theorem cx {D : Nat} {n : KX} (h : ∀ i, Resp D (n i)) : ∀ i, Resp D (clx D n i) := fun i => resp_clear (h i)
theorem pt {c : Code} {D : Nat} {n : KK} (h0 : l = cCode P G call c A H kn kx kr) (k : Nat) (hD : Resp D n) (h1 : cCode P G call (Code.pre k c) A H (clr D n) kx kr = T)
    (hn : n = fun A H => cCode P G call (Code.post k c) A H kn kx kr := by kernel_rfl) : l = T := pre_to h0 hn hD h1
theorem ct {c : Code} (h0 : l = cCode P G call c A H kn kx kr) (x y : Code) (e : Operand) {v : Value} {X Y : OV} (hx : cCode P G call x A H kn kx kr = X) (hy : cCode P G call y A H kn kx kr = Y)
    (h : c = .cond e x y := by kernel_rfl) (he : aEv A e = v := by kernel_rfl) : l = condK v X Y := cond_to h0 h (condK_to he hx hy)
theorem bt {c : Code} {D : Nat} {n : KX} (h0 : l = cCode P G call c A H kn kx kr) (x : Code) (id : Nat) (hD : ∀ i, Resp D (n i)) (h1 : cCode P G call x A H kn (clx D n) kr = T)
    (h : c = .block id x := by kernel_rfl) (hn : n = fun i A H => if i = id then kn A H else kx i A H := by kernel_rfl) : l = T := block_to h0 h hn hD h1
theorem li {c : Code} {D : Nat} {n : KK} (h0 : l = cCode P G call c A H kn kx kr) (x : Code) (hD : Resp D n) (h1 : n (clear D A) H = T) (h : c = .loop x := by kernel_rfl)
    (hn : n = fun A H => cLoop P G call x A H kx kr := by kernel_rfl) : l = T := loop_in h0 h hn hD h1
theorem lt' {x : Code} {D : Nat} {n : KK} (h0 : l = cLoop P G call x A H kx kr) (hD : Resp D n) (h1 : cCode P G call x A H (clr D n) kx kr = T)
    (hn : n = fun A H => cLoop P G call x A H kx kr := by kernel_rfl) : l = T := loop_to h0 hn hD h1
theorem ht' {id : Nat} (h0 : l = BX id kn kx id A H) (h1 : kn A H = T) : l = T := by rw [h0, ← h1]; simp [BX]
theorem ot' {id i : Nat} (h0 : l = BX id kn kx i A H) (h1 : kx i A H = T) (h : (i == id) = false := by kernel_rfl) : l = T := by
  rw [h0, ← h1]
  have : ¬ i = id := by simpa using h
  simp [BX, this]
/-- A function that comes to this. -/
theorem fo {f : Nat} {fn : Func} (hf : P.funcs[f]? = some fn) {args : List Value} {t : OV} {r : Value × AH} (e : cBody P G (aF P G) fn.ntmps fn.results.toList (bodyOf fn) args H = t) (h : t = some r)
    (hb : fn.body.isSome = true := by kernel_rfl) (hn : (fn.name == "runtime.NumGoroutine") = false := by kernel_rfl) (hd : dshape (bodyOf fn) = none := by kernel_rfl) (hl : libName fn.name = false := by kernel_rfl) : aF P G f args H = some r := aF_of_body hf hb hn hd hl (e.trans h)
end
end Go.Proofs.YthagelbepgcolaaGreatDoor.Gst
/- Functions that may panic, told with what comes behind. -/
namespace Go.Proofs.YthagelbepgcolaaGreatDoor.Gst
open Go Go.RowKit
set_option linter.unusedSimpArgs false
set_option linter.unusedVariables false

/-- What a call comes to, as one value. -/
def enc : BO → Value
  | .ret v => .iface 1 v
  | .pan v => .iface 0 v
theorem enc_inj {a b : BO} (h : enc a = enc b) : a = b := by cases a <;> cases b <;> simp [enc] at h <;> subst h <;> rfl
def bE (b : CallB) : CallF := fun f args H => (b f args H).map fun r => (enc r.1, r.2)
theorem bE_ret {b : CallB} {f : Nat} {args : List Value} {H H' : AH} {v : Value} : bE b f args H = some (.iface 1 v, H') ↔ nrm b f args H = some (v, H') := by
  rw [nrm_some]
  unfold bE
  constructor
  · intro h
    obtain ⟨⟨o, H1⟩, h1, e⟩ := Option.map_eq_some_iff.1 h
    have e1 := (Prod.mk.inj e).1
    have e2 := (Prod.mk.inj e).2
    have e2 : H1 = H' := e2
    cases o with
    | ret w => simp [enc] at e1; subst e1; subst e2; exact h1
    | pan w => simp [enc] at e1
  · intro h; rw [h]; rfl
theorem bE_pan {b : CallB} {f : Nat} {args : List Value} {H H' : AH} {v : Value} : bE b f args H = some (.iface 0 v, H') ↔ b f args H = some (.pan v, H') := by
  unfold bE
  constructor
  · intro h
    obtain ⟨⟨o, H1⟩, h1, e⟩ := Option.map_eq_some_iff.1 h
    have e1 := (Prod.mk.inj e).1
    have e2 := (Prod.mk.inj e).2
    have e2 : H1 = H' := e2
    cases o with
    | ret w => simp [enc] at e1
    | pan w => simp [enc] at e1; subst e1; subst e2; exact h1
  · intro h; rw [h]; rfl

section
variable {R : Type}
def panK (x : Value) (k : Value → Option R) : Option R :=
  match x with
  | .iface t v => k (.iface t v)
  | _ => none
def outK (x : Value) (k p : Value → Option R) : Option R :=
  match x with
  | .iface 0 v => p v
  | .iface 1 v => k v
  | _ => none

abbrev dOp (P : Program) (b : CallB) (ev : Operand → Value) (o : Oper) (H : AH) (k : Value → AH → Option R) (kp : Value → AH → Option R) : Option R :=
  match o.op with
  | .panic x => panK (ev x) fun v => kp v H
  | .makeInterface t x => match P.underlying t with
    | some (.interface _) => none
    | some _ => k (.iface t (ev x)) H
    | none => none
  | .slice t x lo hi none => match P.underlying t with
    | some .string => (pSliceS (ev x) (lo.map ev) (hi.map ev)).bind fun v => k v H
    | _ => cOp P noCall ev o H k
  | .convert src dst x => match isB2S P src dst with
    | true => (pBytesS (ev x) H).bind fun v => k v H
    | false => cOp P noCall ev o H k
  | .call c => match c.callee with
    | .builtin .panic => match c.args.toList.map ev with
      | [x] => panK x fun v => kp v H
      | _ => none
    | .builtin bi => cBuiltin P bi c.argTypes (c.args.toList.map ev) H k
    | .value f => (pCallee (ev f) (c.args.toList.map ev)).bind fun fa => (bE b fa.1 fa.2 H).bind fun r => outK r.1 (fun v => k v r.2) (fun v => kp v r.2)
    | _ => none
  | _ => cOp P noCall ev o H k

/-- What a special operation comes to. -/
def spK (x : Option Spc) (H : AH) (k : Value → AH → Option R) (kp : Value → AH → Option R) (d : Option R) : Option R :=
  match x with
  | some (.pan v H') => kp v H'
  | some (.val v) => k v H
  | none => d

theorem aOp_noCall {P : Program} {call : CallF} {ev : Operand → Value} {o : Oper} {H : AH} (h : ∀ c, o.op ≠ .call c) : aOp P noCall ev o H = aOp P call ev o H := by
  obtain ⟨dst, op, type, pos, after, guard⟩ := o
  cases op with
  | call c => exact absurd rfl (h c)
  | makeMap t r => cases r <;> rfl
  | slice t x lo hi mx => cases lo <;> cases hi <;> cases mx <;> rfl
  | _ => rfl

theorem dOp_eq (P : Program) (b : CallB) (ev : Operand → Value) (o : Oper) (H : AH) (k : Value → AH → Option R) (kp : Value → AH → Option R) :
    dOp P b ev o H k kp = spK (bSpO P b ev o.op H) H k kp ((aOp P (nrm b) ev o H).bind fun r => k r.1 r.2) := by
  obtain ⟨dst, op, type, pos, after, guard⟩ := o
  by_cases hc : ∃ c, op = .call c
  · obtain ⟨c, rfl⟩ := hc
    obtain ⟨callee, args, ats⟩ := c
    cases callee with
    | invoke r m => rfl
    | value f =>
      simp only [dOp, bSpO, aOp]
      cases pCallee (ev f) (args.toList.map ev) with
      | none => rfl
      | some fa =>
        simp only [Option.bind_some]
        unfold bE nrm
        cases b fa.1 fa.2 H with
        | none => rfl
        | some r =>
          obtain ⟨o, H1⟩ := r
          cases o <;> rfl
    | builtin bi =>
      by_cases hb : bi = .panic
      · subst hb
        simp only [dOp, bSpO, aOp]
        generalize args.toList.map ev = l
        match l with
        | [] => rfl
        | [x] => cases x <;> rfl
        | x :: y :: z => cases x <;> rfl
      · have e : dOp P b ev ⟨dst, .call ⟨.builtin bi, args, ats⟩, type, pos, after, guard⟩ H k kp = cBuiltin P bi ats (args.toList.map ev) H k := by cases bi <;> first | rfl | exact absurd rfl hb
        have e2 : bSpO P b ev (.call ⟨.builtin bi, args, ats⟩) H = none := by cases bi <;> first | rfl | exact absurd rfl hb
        rw [e, e2, cBuiltin_eq]
        rfl
  · have hn : ∀ c, op ≠ .call c := fun c e => hc ⟨c, e⟩
    by_cases hp : ∃ x, op = .panic x
    · obtain ⟨x, rfl⟩ := hp
      simp only [dOp, bSpO]
      cases ev x <;> rfl
    · by_cases hmi : ∃ t x, op = .makeInterface t x
      · obtain ⟨t, x, rfl⟩ := hmi
        simp only [dOp, bSpO]
        cases P.underlying t with
        | none => rfl
        | some d => cases d <;> rfl
      · by_cases hsl : ∃ t x lo hi, op = .slice t x lo hi none ∧ P.underlying t = some .string
        · obtain ⟨t, x, lo, hi, rfl, hu⟩ := hsl
          simp only [dOp, bSpO, hu]
          cases pSliceS (ev x) (lo.map ev) (hi.map ev) with
          | none =>
            simp only [Option.bind_none, Option.map_none, spK, aOp]
            unfold elemOf'
            rw [hu]
            rfl
          | some v => rfl
        by_cases hcv : ∃ src dst x, op = .convert src dst x ∧ isB2S P src dst = true
        · obtain ⟨src, dst, x, rfl, hu⟩ := hcv
          simp only [dOp, bSpO, hu]
          cases pBytesS (ev x) H with
          | none =>
            obtain ⟨e, h1, h2, h3⟩ := isB2S_iff hu
            have : kindOf P dst = none := by unfold kindOf; rw [h3]
            simp only [Option.bind_none, Option.map_none, spK, aOp, h1, this]
            cases ev x <;> rfl
          | some v => rfl
        have hcn : ∀ src dst x, op = .convert src dst x → isB2S P src dst = false := fun src dst x e => by
          cases hu : isB2S P src dst with
          | true => exact absurd ⟨src, dst, x, e, hu⟩ hcv
          | false => rfl
        have hsn : ∀ t x lo hi, op = .slice t x lo hi none → P.underlying t ≠ some .string := fun t x lo hi e hu => hsl ⟨t, x, lo, hi, e, hu⟩
        have e : dOp P b ev ⟨dst, op, type, pos, after, guard⟩ H k kp = cOp P noCall ev ⟨dst, op, type, pos, after, guard⟩ H k := by
          cases op
          case slice t x lo hi mx =>
            cases mx with
            | some m => rfl
            | none =>
              have := hsn t x lo hi rfl
              simp only [dOp]
              all_goals (split <;> first | rfl | (rename_i hu; exact absurd hu this))
          case convert src dst x => simp only [dOp, hcn src dst x rfl]
          all_goals first | rfl | exact absurd ⟨_, rfl⟩ hc | exact absurd ⟨_, rfl⟩ hp | exact absurd ⟨_, _, rfl⟩ hmi
        have e2 : bSpO P b ev op H = none := by
          cases op
          case slice t x lo hi mx =>
            cases mx with
            | some m => rfl
            | none =>
              have := hsn t x lo hi rfl
              simp only [bSpO]
              all_goals (split <;> first | rfl | (rename_i hu; exact absurd hu this))
          case convert src dst x => simp only [bSpO, hcn src dst x rfl]
          all_goals first | rfl | exact absurd ⟨_, rfl⟩ hc | exact absurd ⟨_, rfl⟩ hp | exact absurd ⟨_, _, rfl⟩ hmi
        rw [e, cOp_eq, aOp_noCall (call := nrm b) hn]
        show _ = spK (bSpO P b ev op H) H k kp _
        rw [e2]
        rfl

/-- Is it one of those that a guard may not stand ahead of here? -/
def isSpc (P : Program) (op : Op) : Bool :=
  match op with
  | .panic _ => true
  | .makeInterface .. => true
  | .slice t _ _ _ none => match P.underlying t with
    | some .string => true
    | _ => false
  | .convert src dst _ => isB2S P src dst
  | .call _ => true
  | _ => false
abbrev dStep (P : Program) (G : List Nat) (b : CallB) (ops : Array Oper) (o : Oper) (A : List Value) (H : AH) (k : List Value → AH → Option R) (kp : Value → AH → Option R) : Option R :=
  match isSpc P o.op with
  | false => cStep P G noCall ops o A H k
  | true => match o.op.operands.toList.all (okX G) with
    | true => match o.guard with
      | none => dOp P b (aEv A) o H (fun v H' => k (aPut A o.dst v) H') kp
      | some g => match aYield ops A g.1 == some g.2 with
        | true => dOp P b (aEv A) o H (fun v H' => k (aPut A o.dst v) H') kp
        | false => k (aPut A o.dst undef) H
    | false => none

theorem bSpO_isSpc {P : Program} {b : CallB} {ev : Operand → Value} {op : Op} {H : AH} (h : isSpc P op = false) : bSpO P b ev op H = none := by
  cases op
  case slice t x lo hi mx =>
    cases mx with
    | some m => rfl
    | none =>
      simp only [isSpc] at h
      simp only [bSpO]
      split
      · rename_i hu; rw [hu] at h; cases h
      · rfl
  case convert src dst x =>
    have h : isB2S P src dst = false := h
    simp only [bSpO, h]
  all_goals first | rfl | cases h
theorem aStep_noCall {P : Program} {G : List Nat} {call : CallF} {ops : Array Oper} {o : Oper} {A : List Value} {H : AH} (h : isSpc P o.op = false) : aStep P G noCall ops o A H = aStep P G call ops o A H := by
  unfold aStep
  rw [aOp_noCall (call := call) (fun c e => by rw [e] at h; cases h)]

theorem dStep_eq (P : Program) (G : List Nat) (b : CallB) (ops : Array Oper) (o : Oper) (A : List Value) (H : AH) (k : List Value → AH → Option R) (kp : Value → AH → Option R) :
    dStep P G b ops o A H k kp = spK (bSp P G b ops o A H) H (fun v H' => k (aPut A o.dst v) H') kp ((aStep P G (nrm b) ops o A H).bind fun s => k s.1 s.2) := by
  unfold dStep bSp
  cases hs : isSpc P o.op with
  | false =>
    simp only
    rw [cStep_eq, aStep_noCall (call := nrm b) hs]
    split
    · rw [bSpO_isSpc hs]; rfl
    · rfl
  | true =>
    simp only
    cases hok : o.op.operands.toList.all (okX G) with
    | false => simp [aStep, hok, spK]
    | true =>
      simp only
      have main : Region.wanted o (aYield ops A) = true → dOp P b (aEv A) o H (fun v H' => k (aPut A o.dst v) H') kp =
          spK (bSpO P b (aEv A) o.op H) H (fun v H' => k (aPut A o.dst v) H') kp ((aStep P G (nrm b) ops o A H).bind fun s => k s.1 s.2) := by
        intro hw
        rw [dOp_eq]
        congr 1
        unfold aStep
        rw [if_pos hok, if_pos hw, Option.bind_map]
        rfl
      cases hg : o.guard with
      | none =>
        have hw : Region.wanted o (aYield ops A) = true := by simp [Region.wanted, hg]
        rw [if_pos (by simp [hw])]
        exact main hw
      | some g =>
        obtain ⟨g, want⟩ := g
        simp only
        cases hy : (aYield ops A g == some want) with
        | true =>
          have hw : Region.wanted o (aYield ops A) = true := by simp only [Region.wanted, hg]; exact hy
          rw [if_pos (by simp [hw])]
          exact main hw
        | false =>
          have hw : ¬ Region.wanted o (aYield ops A) = true := by simp only [Region.wanted, hg]; rw [hy]; simp
          simp only
          rw [if_neg (fun h => hw h.2)]
          unfold aStep
          rw [if_pos hok, if_neg hw]
          rfl

abbrev dOps (P : Program) (G : List Nat) (b : CallB) (ops : Array Oper) : List Oper → List Value → AH → (List Value → AH → Option R) → (Value → List Value → AH → Option R) → Option R
  | [], A, H, k, _ => k A H
  | o :: rest, A, H, k, kp => dStep P G b ops o A H (fun A' H' => dOps P G b ops rest A' H' k kp) fun v H' => kp v A H'

/-- How what a piece of code comes to goes on. -/
def dispB (kn : List Value → AH → Option R) (kx : Nat → List Value → AH → Option R) (kr : List Value → AH → Option R) (kp : Value → List Value → AH → Option R) (r : BR) : Option R :=
  match r.1 with
  | .normal => kn r.2.1 r.2.2
  | .exit i => kx i r.2.1 r.2.2
  | .ret => kr r.2.1 r.2.2
  | .pan v => kp v r.2.1 r.2.2

theorem dOps_eq (P : Program) (G : List Nat) (b : CallB) (ops : Array Oper) (kx : Nat → List Value → AH → Option R) (kr : List Value → AH → Option R) : ∀ (l : List Oper) (A : List Value) (H : AH) (k : List Value → AH → Option R) (kp : Value → List Value → AH → Option R),
    dOps P G b ops l A H k kp = (bOps P G b ops l A H).bind (dispB k kx kr kp) := by
  intro l
  induction l with
  | nil => intro A H k kp; rfl
  | cons o l ih =>
    intro A H k kp
    simp only [dOps, bOps]
    rw [dStep_eq]
    cases hs : bSp P G b ops o A H with
    | none =>
      simp only [spK]
      rw [Option.bind_assoc]
      congr 1
      funext s
      exact ih _ _ _ _
    | some x =>
      cases x with
      | pan v H' => rfl
      | val v => simp only [spK]; exact ih _ _ _ _

noncomputable def dLoop (P : Program) (G : List Nat) (b : CallB) (x : Code) (A : List Value) (H : AH) (kx : Nat → List Value → AH → Option R) (kr : List Value → AH → Option R) (kp : Value → List Value → AH → Option R) : Option R :=
  (bLoop (bCode P G b x) A H).bind (dispB (fun _ _ => none) kx kr kp)
noncomputable abbrev dCode (P : Program) (G : List Nat) (b : CallB) : Code → List Value → AH → (List Value → AH → Option R) → (Nat → List Value → AH → Option R) → (List Value → AH → Option R) → (Value → List Value → AH → Option R) → Option R
  | .skip, A, H, kn, _, _, _ => kn A H
  | .label _, A, H, kn, _, _, _ => kn A H
  | .region _ ops draw, A, H, kn, _, _, kp => match draw with
    | true => cRegion P G (nrm b) ops true A H kn
    | false => dOps P G b ops ops.toList A H kn kp
  | .seq x y, A, H, kn, kx, kr, kp => dCode P G b x A H (fun A H => dCode P G b y A H kn kx kr kp) kx kr kp
  | .cond c x y, A, H, kn, kx, kr, kp => match aEv A c with
    | .bool true => dCode P G b x A H kn kx kr kp
    | .bool false => dCode P G b y A H kn kx kr kp
    | _ => none
  | .block id x, A, H, kn, kx, kr, kp => dCode P G b x A H kn (fun i A H => if i = id then kn A H else kx i A H) kr kp
  | .loop x, A, H, _, kx, kr, kp => dLoop P G b x A H kx kr kp
  | .exit id, A, H, _, kx, _, _ => kx id A H
  | .ret, A, H, _, _, kr, _ => kr A H
  | _, _, _, _, _, _, _ => none

theorem bIter_not {f : List Value → AH → Option BR} : ∀ {n : Nat} {A : List Value} {H : AH} {r : BR}, bIter f n A H = some r → r.1 ≠ .normal := by
  intro n
  induction n with
  | zero => intro A H r h; cases h
  | succ n ih =>
    intro A H r h
    simp only [bIter] at h
    obtain ⟨s, hs, h⟩ := Option.bind_eq_some_iff.1 h
    split at h
    · exact ih h
    · rename_i e
      cases h
      exact fun he => e he
theorem bLoop_not {f : List Value → AH → Option BR} {A : List Value} {H : AH} {r : BR} (h : bLoop f A H = some r) : r.1 ≠ .normal := by
  obtain ⟨n, hn⟩ := bLoop_iff.1 h
  exact bIter_not hn

theorem dCode_eq (P : Program) (G : List Nat) (b : CallB) : ∀ (c : Code) (A : List Value) (H : AH) (kn : List Value → AH → Option R) (kx : Nat → List Value → AH → Option R) (kr : List Value → AH → Option R) (kp : Value → List Value → AH → Option R),
    dCode P G b c A H kn kx kr kp = (bCode P G b c A H).bind (dispB kn kx kr kp) := by
  intro c
  induction c with
  | skip => intros; rfl
  | label => intros; rfl
  | exit => intros; rfl
  | ret => intros; rfl
  | region id ops draw =>
    intro A H kn kx kr kp
    simp only [dCode, bCode]
    cases draw with
    | true => simp only; rw [cRegion_eq, Option.bind_map]; rfl
    | false => exact dOps_eq ..
  | seq x y ihx ihy =>
    intro A H kn kx kr kp
    simp only [dCode, bCode]
    rw [ihx, Option.bind_assoc]
    congr 1
    funext r
    obtain ⟨e, A1, H1⟩ := r
    cases e with
    | normal => simp only [dispB]; exact ihy ..
    | exit i => rfl
    | ret => rfl
    | pan v => rfl
  | cond c x y ihx ihy =>
    intro A H kn kx kr kp
    simp only [dCode, bCode]
    generalize aEv A c = v
    cases v with
    | bool b => cases b <;> first | exact ihx .. | exact ihy ..
    | _ => rfl
  | block id x ih =>
    intro A H kn kx kr kp
    simp only [dCode, bCode]
    rw [ih, Option.bind_map]
    congr 1
    funext r
    obtain ⟨e, A1, H1⟩ := r
    cases e with
    | normal => rfl
    | exit i =>
      simp only [dispB, Function.comp]
      split <;> rfl
    | ret => rfl
    | pan v => rfl
  | loop x ih =>
    intro A H kn kx kr kp
    simp only [dCode, bCode, dLoop]
    cases h : bLoop (bCode P G b x) A H with
    | none => rfl
    | some r =>
      simp only [Option.bind_some]
      have := bLoop_not h
      obtain ⟨e, A1, H1⟩ := r
      cases e with
      | normal => exact absurd rfl this
      | exit i => rfl
      | ret => rfl
      | pan v => rfl
  | rangeFunc => intros; rfl
  | scope => intros; rfl
  | goto => intros; rfl
  | refuse => intros; rfl

theorem dLoop_eq (P : Program) (G : List Nat) (b : CallB) (x : Code) (A : List Value) (H : AH) (kx : Nat → List Value → AH → Option R) (kr : List Value → AH → Option R) (kp : Value → List Value → AH → Option R) :
    dLoop P G b x A H kx kr kp = dCode P G b x A H (fun A H => dLoop P G b x A H kx kr kp) kx kr kp := by
  rw [dCode_eq]
  unfold dLoop
  rw [bLoop_eq, Option.bind_assoc]
  congr 1
  funext r
  obtain ⟨e, A1, H1⟩ := r
  cases e <;> rfl
end

abbrev dFin (P : Program) (rs : List ResultVar) (A : List Value) (H : AH) : OV := cMany P A H rs fun vs => some (.iface 1 (tup vs), H)
def dPan (v : Value) (A : List Value) (H : AH) : OV := some (.iface 0 v, H)
noncomputable def dBody (P : Program) (G : List Nat) (b : CallB) (n : Nat) (rs : List ResultVar) (c : Code) (args : List Value) (H : AH) : OV :=
  dCode P G b c (args ++ List.replicate (n - args.length) undef) H (dFin P rs) kx0 (dFin P rs) dPan
theorem dFin_eq (P : Program) (rs : List ResultVar) (A : List Value) (H : AH) : dFin P rs A H = (aResults P A H rs).map fun x => (.iface 1 x, H) := by
  unfold dFin aResults
  rw [cMany_eq, Option.map_map]
  cases aMany P A H rs with
  | none => rfl
  | some vs =>
    simp only [Option.bind_some, Option.map_some, Function.comp]
    congr 3
theorem dBody_eq (P : Program) (G : List Nat) (b : CallB) (n : Nat) (rs : List ResultVar) (c : Code) (args : List Value) (H : AH) : dBody P G b n rs c args H = (bBody P G b n rs c args H).map fun r => (enc r.1, r.2) := by
  unfold dBody bBody
  rw [dCode_eq]
  cases bCode P G b c (args ++ List.replicate (n - args.length) undef) H with
  | none => rfl
  | some r =>
    obtain ⟨e, A1, H1⟩ := r
    cases e with
    | normal => simp only [Option.bind_some, dispB]; rw [dFin_eq, Option.map_map]; rfl
    | exit i => rfl
    | ret => simp only [Option.bind_some, dispB]; rw [dFin_eq, Option.map_map]; rfl
    | pan v => rfl
theorem ltb {P : Program} {G : List Nat} {b : CallB} {x : Code} {A : List Value} {H : AH} {kx : KX} {kr : KK} {kp : Value → List Value → AH → OV} {l T : OV} (h0 : l = dLoop P G b x A H kx kr kp) (h1 : dCode P G b x A H (fun A H => dLoop P G b x A H kx kr kp) kx kr kp = T) : l = T := by
  rw [h0, dLoop_eq, h1]
/-- A function that comes to this, or panics. -/
theorem fob {P : Program} {G : List Nat} {f : Nat} {fn : Func} (hf : P.funcs[f]? = some fn) {args : List Value} {H : AH} {t : OV} {r : Value × AH} (e : dBody P G (bF P G) fn.ntmps fn.results.toList (bodyOf fn) args H = t) (h : t = some r)
    (hb : fn.body.isSome = true := by kernel_rfl) (hn : (fn.name == "runtime.NumGoroutine") = false := by kernel_rfl) (hd : rshape (bodyOf fn) = none := by kernel_rfl) (hl : libName fn.name = false := by kernel_rfl) : bE (bF P G) f args H = some r := by
  have h1 := e.trans h
  rw [dBody_eq] at h1
  obtain ⟨r0, h2, h3⟩ := Option.map_eq_some_iff.1 h1
  unfold bE
  have hn' : fn.name ≠ "runtime.NumGoroutine" := by simpa using hn
  cases hc : fn.body with
  | none => rw [hc] at hb; cases hb
  | some c =>
    have hbc : bodyOf fn = c := by unfold bodyOf; rw [hc]; rfl
    rw [hbc] at h2 hd
    rw [bF_of hf hl (r := r0) (by unfold bFun; rw [if_neg hn', hc]; simp only [hd]; exact h2)]
    exact congrArg some h3

/-- A function that defers a closure that recovers. -/
noncomputable def eBody (P : Program) (G : List Nat) (b : CallB) (n : Nat) (rs : List ResultVar) (s : RSh) (args : List Value) (H : AH) : OV :=
  cCode P G (nrm b) s.c1 (args ++ List.replicate (n - args.length) undef) H
    (fun A1 H1 => if A1.length ≤ s.t then none else cStep P G (nrm b) s.ops2 s.om A1 H1 fun A2 H2 =>
      dCode P G b s.c3 A2 H2 (cFin P rs) kx0 (cFin P rs) fun v A3 H3 => (mendF P G s.k (s.cap.toList.map (aEv A1)) v H3).bind fun H4 => cFin P rs A3 H4)
    kx0 (cFin P rs)
theorem eBody_of {P : Program} {G : List Nat} {b : CallB} {n : Nat} {rs : List ResultVar} {s : RSh} (hh : Harmless P s.k) {args : List Value} {H : AH} {r : Value × AH} (h : eBody P G b n rs s args H = some r) : bDefer P G b n rs s args H = some (.ret r.1, r.2) := by
  unfold eBody at h
  unfold bDefer
  rw [cCode_eq] at h
  obtain ⟨⟨e1, A1, H1⟩, h1, h⟩ := Option.bind_eq_some_iff.1 h
  rw [h1]
  simp only [Option.bind_some]
  have fin : ∀ {A : List Value} {H : AH}, cFin P rs A H = some r → (aResults P A H rs).map (fun x => (BO.ret x, H)) = some (.ret r.1, r.2) := by
    intro A H h
    rw [cFin_eq] at h
    obtain ⟨x, hx, e⟩ := Option.map_eq_some_iff.1 h
    rw [hx, ← e]
    rfl
  cases e1 with
  | exit i => cases h
  | ret => exact fin h
  | normal =>
    simp only [disp] at h ⊢
    split at h
    · cases h
    rename_i hlt
    rw [if_neg hlt]
    rw [cStep_eq] at h
    obtain ⟨q, h2, h⟩ := Option.bind_eq_some_iff.1 h
    rw [h2]
    simp only [Option.bind_some]
    rw [dCode_eq] at h
    obtain ⟨⟨e3, A3, H3⟩, h3, h⟩ := Option.bind_eq_some_iff.1 h
    rw [h3]
    simp only [Option.bind_some]
    cases e3 with
    | exit i => cases h
    | normal => simp only [dispB] at h ⊢; rw [chk_true hh]; exact fin h
    | ret => simp only [dispB] at h ⊢; rw [chk_true hh]; exact fin h
    | pan v =>
      simp only [dispB] at h ⊢
      obtain ⟨H4, h4, h⟩ := Option.bind_eq_some_iff.1 h
      rw [h4]
      exact fin h
theorem foe {P : Program} {G : List Nat} {f : Nat} {fn : Func} {s : RSh} (hf : P.funcs[f]? = some fn) (hh : Harmless P s.k) {args : List Value} {H : AH} {r : Value × AH} (h : eBody P G (bF P G) fn.ntmps fn.results.toList s args H = some r)
    (hb : fn.body.isSome = true := by kernel_rfl) (hn : (fn.name == "runtime.NumGoroutine") = false := by kernel_rfl) (hd : rshape (bodyOf fn) = some s := by kernel_rfl) (hl : libName fn.name = false := by kernel_rfl) : aF P G f args H = some r := by
  have hn' : fn.name ≠ "runtime.NumGoroutine" := by simpa using hn
  cases hc : fn.body with
  | none => rw [hc] at hb; cases hb
  | some c =>
    have hbc : bodyOf fn = c := by unfold bodyOf; rw [hc]; rfl
    rw [hbc] at hd
    exact nrm_some.2 (bF_of hf hl (by unfold bFun; rw [if_neg hn', hc]; simp only [hd]; exact eBody_of hh h))
end Go.Proofs.YthagelbepgcolaaGreatDoor.Gst
/- Slots that nobody looks at any more, where a run may panic. -/
namespace Go.Proofs.YthagelbepgcolaaGreatDoor.Gst
open Go Go.RowKit
set_option linter.unusedSimpArgs false
set_option linter.unusedVariables false
section
variable {P : Program} {G : List Nat} {b : CallB} {R : Type}
/-- Both come to nothing, or both the same way out, with lists that are alike. -/
inductive BothB (D D' : Nat) : Option BR → Option BR → Prop
  | no : BothB D D' none none
  | normal {A A' : List Value} (H : AH) (h : Agree D' A A') : BothB D D' (some (.normal, A, H)) (some (.normal, A', H))
  | exit (i : Nat) {A A' : List Value} (H : AH) (h : Agree D A A') : BothB D D' (some (.exit i, A, H)) (some (.exit i, A', H))
  | ret {A A' : List Value} (H : AH) (h : Agree D A A') : BothB D D' (some (.ret, A, H)) (some (.ret, A', H))
  | pan (v : Value) {A A' : List Value} (H : AH) (h : Agree D A A') : BothB D D' (some (.pan v, A, H)) (some (.pan v, A', H))

theorem bSp_both {ops : Array Oper} {o : Oper} {D : Nat} (ho : okOper D ops o = true) {A A' : List Value} (h : Agree D A A') (H : AH) : bSp P G b ops o A H = bSp P G b ops o A' H := by
  unfold okOper at ho
  simp only [Bool.and_eq_true] at ho
  have hev : ∀ x ∈ o.op.operands.toList, aEv A x = aEv A' x := fun x hx => h.ev (List.all_eq_true.1 ho.1 x hx)
  have hw : Region.wanted o (aYield ops A) = Region.wanted o (aYield ops A') := by
    unfold Region.wanted
    cases hg : o.guard with
    | none => rfl
    | some g =>
      obtain ⟨g, want⟩ := g
      rw [hg] at ho
      have hy : aYield ops A g = aYield ops A' g := by
        unfold aYield
        cases hd : (ops[g]?).bind (·.dst) with
        | none => rfl
        | some t =>
          have h2 := ho.2
          simp only [hd, Bool.not_eq_true'] at h2
          simp only [Option.bind_some]
          rw [h.2 t h2]
      simp only [hy]
  unfold bSp
  rw [hw]
  have key : bSpO P b (aEv A) o.op H = bSpO P b (aEv A') o.op H := by
    generalize o.op = op at hev
    cases op with
    | panic x => simp only [bSpO, hev x (by simp [Op.operands])]
    | makeInterface t x => simp only [bSpO, hev x (by simp [Op.operands])]
    | convert s d x => simp only [bSpO, hev x (by simp [Op.operands])]
    | slice t x lo hi mx =>
      cases mx with
      | some m => rfl
      | none =>
        have hl : lo.map (aEv A) = lo.map (aEv A') := by
          cases lo with
          | none => rfl
          | some q => exact congrArg some (hev q (by simp [Op.operands]))
        have hh : hi.map (aEv A) = hi.map (aEv A') := by
          cases hi with
          | none => rfl
          | some q => exact congrArg some (hev q (by simp [Op.operands]))
        simp only [bSpO, hev x (by simp [Op.operands]), hl, hh]
    | call c =>
      obtain ⟨callee, args, ats⟩ := c
      have ha : args.toList.map (aEv A) = args.toList.map (aEv A') := List.map_congr_left fun x hx => hev x (by simp only [Op.operands, Call.operands, Array.toList_append, List.mem_append]; exact .inr hx)
      cases callee with
      | value f => simp only [bSpO, ha, hev f (by simp [Op.operands, Call.operands])]
      | invoke r m => rfl
      | builtin bi => cases bi <;> first | rfl | (simp only [bSpO, ha])
    | _ => rfl
  rw [key]
theorem opsB_both {ops : Array Oper} : ∀ {l : List Oper} {D D' : Nat}, okOps ops l D = some D' → ∀ {A A' : List Value}, Agree D A A' → ∀ H, BothB D D' (bOps P G b ops l A H) (bOps P G b ops l A' H) := by
  intro l
  induction l with
  | nil => intro D D' h A A' hA H; simp only [okOps] at h; cases h; exact .normal H hA
  | cons o l ih =>
    intro D D' h A A' hA H
    simp only [okOps] at h
    split at h
    · rename_i ho
      have hle : ∀ t, D.testBit t = false → (wipe D o.dst).testBit t = false := fun t ht => wipe_le ht
      have up : ∀ {x y : Option BR}, BothB (wipe D o.dst) D' x y → BothB D D' x y := by
        intro x y hb
        cases hb with
        | no => exact .no
        | normal H1 hA1 => exact .normal H1 hA1
        | exit i H1 hA1 => exact .exit i H1 (hA1.mono hle)
        | ret H1 hA1 => exact .ret H1 (hA1.mono hle)
        | pan v H1 hA1 => exact .pan v H1 (hA1.mono hle)
      simp only [bOps]
      rw [bSp_both ho hA H]
      cases bSp P G b ops o A' H with
      | some x =>
        cases x with
        | pan v H1 => exact .pan v H1 hA
        | val v => exact up (ih h (hA.put o.dst v) H)
      | none =>
        have := step_both (P := P) (G := G) (call := nrm b) ho hA H
        simp only
        generalize aStep P G (nrm b) ops o A H = x at this
        generalize aStep P G (nrm b) ops o A' H = y at this
        cases this with
        | no => exact .no
        | yes H1 hA1 => exact up (ih h hA1 H1)
    · cases h
theorem codeB_both : ∀ {c : Code} {D D' : Nat}, okC c D = some D' → ∀ {A A' : List Value}, Agree D A A' → ∀ H, BothB D D' (bCode P G b c A H) (bCode P G b c A' H) := by
  intro c
  induction c with
  | skip => intro D D' h A A' hA H; simp only [okC] at h; cases h; exact .normal H hA
  | label l => intro D D' h A A' hA H; simp only [okC] at h; cases h; exact .normal H hA
  | exit id => intro D D' h A A' hA H; exact .exit id H hA
  | ret => intro D D' h A A' hA H; exact .ret H hA
  | region id ops draw =>
    intro D D' h A A' hA H
    simp only [okC] at h
    simp only [bCode]
    cases draw with
    | true =>
      have hb := draw_both (P := P) (G := G) (call := nrm b) h hA H
      simp only
      generalize aDraw P G (nrm b) ops A H = x at hb
      generalize aDraw P G (nrm b) ops A' H = y at hb
      cases hb with
      | no => exact .no
      | yes H1 hA1 => exact .normal H1 hA1
    | false => exact opsB_both h hA H
  | seq x y ihx ihy =>
    intro D D' h A A' hA H
    simp only [okC] at h
    split at h
    · rename_i D1 h1
      split at h
      · rename_i D2 h2
        cases h
        simp only [bCode]
        have hb := ihx h1 hA H
        generalize bCode P G b x A H = u at hb
        generalize bCode P G b x A' H = v at hb
        cases hb with
        | no => exact .no
        | normal H1 hA1 =>
          have hb2 := ihy h2 hA1 H1
          simp only [Option.bind_some]
          rename_i A1 A1'
          generalize bCode P G b y A1 H1 = u at hb2
          generalize bCode P G b y A1' H1 = v at hb2
          cases hb2 with
          | no => exact .no
          | normal H2 hA2 => exact .normal H2 hA2
          | exit i H2 hA2 => exact .exit i H2 (hA2.mono (fun t ht => okC_le h1 t ht))
          | ret H2 hA2 => exact .ret H2 (hA2.mono (fun t ht => okC_le h1 t ht))
          | pan v H2 hA2 => exact .pan v H2 (hA2.mono (fun t ht => okC_le h1 t ht))
        | exit i H1 hA1 => exact .exit i H1 hA1
        | ret H1 hA1 => exact .ret H1 hA1
        | pan v H1 hA1 => exact .pan v H1 hA1
      · cases h
    · cases h
  | cond c x y ihx ihy =>
    intro D D' h A A' hA H
    simp only [okC] at h
    split at h
    · rename_i hc
      split at h
      · rename_i D1 D2 h1 h2
        cases h
        simp only [bCode]
        rw [hA.ev hc]
        have m1 : ∀ t, (D1 ||| D2).testBit t = false → D1.testBit t = false := fun t ht => by rw [Nat.testBit_or, Bool.or_eq_false_iff] at ht; exact ht.1
        have m2 : ∀ t, (D1 ||| D2).testBit t = false → D2.testBit t = false := fun t ht => by rw [Nat.testBit_or, Bool.or_eq_false_iff] at ht; exact ht.2
        generalize aEv A' c = v
        cases v with
        | bool bb =>
          cases bb with
          | true =>
            have hb := ihx h1 hA H
            simp only
            generalize bCode P G b x A H = u at hb
            generalize bCode P G b x A' H = v at hb
            cases hb with
            | no => exact .no
            | normal H1 hA1 => exact .normal H1 (hA1.mono m1)
            | exit i H1 hA1 => exact .exit i H1 hA1
            | ret H1 hA1 => exact .ret H1 hA1
            | pan v H1 hA1 => exact .pan v H1 hA1
          | false =>
            have hb := ihy h2 hA H
            simp only
            generalize bCode P G b y A H = u at hb
            generalize bCode P G b y A' H = v at hb
            cases hb with
            | no => exact .no
            | normal H1 hA1 => exact .normal H1 (hA1.mono m2)
            | exit i H1 hA1 => exact .exit i H1 hA1
            | ret H1 hA1 => exact .ret H1 hA1
            | pan v H1 hA1 => exact .pan v H1 hA1
        | _ => exact .no
      · cases h
    · cases h
  | block id x ih =>
    intro D D' h A A' hA H
    simp only [okC] at h
    split at h <;> cases h
    rename_i D1 h1
    simp only [bCode]
    have hb := ih h1 hA H
    generalize bCode P G b x A H = u at hb
    generalize bCode P G b x A' H = v at hb
    cases hb with
    | no => exact .no
    | normal H1 hA1 => exact .normal H1 (hA1.mono (fun t ht => okC_le h1 t ht))
    | exit i H1 hA1 =>
      simp only [Option.map_some]
      split
      · exact .normal H1 hA1
      · exact .exit i H1 hA1
    | ret H1 hA1 => exact .ret H1 hA1
    | pan v H1 hA1 => exact .pan v H1 hA1
  | loop x ih =>
    intro D D' h A A' hA H
    simp only [okC] at h
    split at h <;> cases h
    rename_i D1 h1
    simp only [bCode]
    have it : ∀ n {A A' : List Value} (H : AH), Agree D A A' → BothB D D (bIter (bCode P G b x) n A H) (bIter (bCode P G b x) n A' H) := by
      intro n
      induction n with
      | zero => intro A A' H _; exact .no
      | succ n ihn =>
        intro A A' H hA
        simp only [bIter]
        have hb := ih h1 hA H
        generalize bCode P G b x A H = u at hb
        generalize bCode P G b x A' H = v at hb
        cases hb with
        | no => exact .no
        | normal H1 hA1 => exact ihn H1 (hA1.mono (fun t ht => okC_le h1 t ht))
        | exit i H1 hA1 => exact .exit i H1 hA1
        | ret H1 hA1 => exact .ret H1 hA1
        | pan v H1 hA1 => exact .pan v H1 hA1
    cases hl : bLoop (bCode P G b x) A H with
    | some r =>
      obtain ⟨n, hn⟩ := bLoop_iff.1 hl
      have hb := it n H hA
      rw [hn] at hb
      cases hm : bIter (bCode P G b x) n A' H with
      | none => rw [hm] at hb; cases hb
      | some r' =>
        rw [bLoop_iff.2 ⟨n, hm⟩]
        rw [hm] at hb
        exact hb
    | none =>
      cases hl' : bLoop (bCode P G b x) A' H with
      | none => exact .no
      | some r' =>
        obtain ⟨n, hn⟩ := bLoop_iff.1 hl'
        have hb := it n H hA
        rw [hn] at hb
        cases hm : bIter (bCode P G b x) n A H with
        | none => rw [hm] at hb; cases hb
        | some r => rw [bLoop_iff.2 ⟨n, hm⟩] at hl; cases hl
  | rangeFunc => intro D D' h; simp [okC] at h
  | scope => intro D D' h; simp [okC] at h
  | goto => intro D D' h; simp [okC] at h
  | refuse => intro D D' h; simp [okC] at h

theorem resp_codeB {c : Code} {D D' : Nat} {kn : List Value → AH → Option R} {kx : Nat → List Value → AH → Option R} {kr : List Value → AH → Option R} {kp : Value → List Value → AH → Option R} (h : okInto c D D' = true) (hn : Resp D' kn) (hx : ∀ i, Resp D (kx i)) (hr : Resp D kr) (hp : ∀ v, Resp D (kp v)) :
    Resp D (fun A H => dCode P G b c A H kn kx kr kp) := by
  intro A A' H hA
  unfold okInto at h
  split at h
  · rename_i D1 h1
    simp only
    rw [dCode_eq, dCode_eq]
    have hb := codeB_both (P := P) (G := G) (b := b) h1 hA H
    generalize bCode P G b c A H = u at hb
    generalize bCode P G b c A' H = v at hb
    cases hb with
    | no => rfl
    | normal H1 hA1 => exact hn _ _ H1 (hA1.mono (subB_le h))
    | exit i H1 hA1 => exact hx i _ _ H1 hA1
    | ret H1 hA1 => exact hr _ _ H1 hA1
    | pan v H1 hA1 => exact hp v _ _ H1 hA1
  · cases h

theorem resp_loopB {c : Code} {D : Nat} {kx : Nat → List Value → AH → Option R} {kr : List Value → AH → Option R} {kp : Value → List Value → AH → Option R} (h : okInto c D D = true) (hx : ∀ i, Resp D (kx i)) (hr : Resp D kr) (hp : ∀ v, Resp D (kp v)) :
    Resp D (fun A H => dLoop P G b c A H kx kr kp) := by
  intro A A' H hA
  unfold okInto at h
  split at h
  · rename_i D1 h1
    have hb := codeB_both (P := P) (G := G) (b := b) (c := .loop c) (D := D) (D' := D) (by simp only [okC, h1]) hA H
    simp only [bCode] at hb
    simp only [dLoop]
    generalize bLoop (bCode P G b c) A H = u at hb
    generalize bLoop (bCode P G b c) A' H = v at hb
    cases hb with
    | no => rfl
    | normal H1 hA1 => rfl
    | exit i H1 hA1 => exact hx i _ _ H1 hA1
    | ret H1 hA1 => exact hr _ _ H1 hA1
    | pan v H1 hA1 => exact hp v _ _ H1 hA1
  · cases h

theorem resp_finB {D : Nat} {rs : List ResultVar} (h : okRes D rs = true) : Resp D (dFin P rs) := resp_many h fun vs H => some (Value.iface 1 (tup vs), H)
theorem resp_pan (v : Value) : Resp fullD (dPan v) := fun _ _ _ _ => rfl
theorem resp_mend {D : Nat} {m : AH → Option AH} {k : KK} (h : Resp D k) : Resp D (fun A H => (m H).bind fun H' => k A H') := fun A A' H hA => by
  simp only
  cases m H with
  | none => rfl
  | some H1 => exact h A A' H1 hA
variable {A : List Value} {H : AH} {kn : List Value → AH → Option R} {kx : Nat → List Value → AH → Option R} {kr : List Value → AH → Option R} {kp : Value → List Value → AH → Option R}
theorem seq_atB {c x y : Code} (h : c = .seq x y) : dCode P G b c A H kn kx kr kp = dCode P G b x A H (fun A H => dCode P G b y A H kn kx kr kp) kx kr kp := by subst h; rfl
theorem seq_clearB {c x y : Code} (h : c = .seq x y) {D : Nat} {n : List Value → AH → Option R} (hn : n = fun A H => dCode P G b y A H kn kx kr kp) (hD : Resp D n) :
    dCode P G b c A H kn kx kr kp = dCode P G b x A H (fun A H => n (clear D A) H) kx kr kp := by
  subst h
  have e : (fun A H => n (clear D A) H) = n := by
    funext A H
    exact (hD A (clear D A) H (clear_agree D A)).symm
  rw [e, hn]; try rfl
theorem cond_atB {c x y : Code} {e : Operand} (h : c = .cond e x y) : dCode P G b c A H kn kx kr kp = condK (aEv A e) (dCode P G b x A H kn kx kr kp) (dCode P G b y A H kn kx kr kp) := by subst h; rfl
theorem block_atB {c x : Code} {id : Nat} (h : c = .block id x) : dCode P G b c A H kn kx kr kp = dCode P G b x A H kn (fun i A H => if i = id then kn A H else kx i A H) kr kp := by subst h; rfl
theorem block_clearB {c x : Code} {id : Nat} (h : c = .block id x) {D : Nat} {n : Nat → List Value → AH → Option R} (hn : n = fun i A H => if i = id then kn A H else kx i A H) (hD : ∀ i, Resp D (n i)) :
    dCode P G b c A H kn kx kr kp = dCode P G b x A H kn (fun i A H => n i (clear D A) H) kr kp := by
  subst h
  have e : (fun i A H => n i (clear D A) H) = n := by
    funext i A H
    exact (hD i A (clear D A) H (clear_agree D A)).symm
  rw [e, hn]; try rfl
theorem loop_atB {c x : Code} (h : c = .loop x) : dCode P G b c A H kn kx kr kp = dLoop P G b x A H kx kr kp := by subst h; rfl
theorem loop_slotsB {x : Code} {D : Nat} {n : List Value → AH → Option R} (hn : n = fun A H => dLoop P G b x A H kx kr kp) (hD : Resp D n) : dLoop P G b x A H kx kr kp = n (clear D A) H := by
  have := hD A (clear D A) H (clear_agree D A)
  rw [← this, hn]
theorem loop_clearB {x : Code} {D : Nat} {n : List Value → AH → Option R} (hn : n = fun A H => dLoop P G b x A H kx kr kp) (hD : Resp D n) :
    dLoop P G b x A H kx kr kp = dCode P G b x A H (fun A H => n (clear D A) H) kx kr kp := by
  have e : (fun A H => n (clear D A) H) = n := by
    funext A H
    exact (hD A (clear D A) H (clear_agree D A)).symm
  rw [e, hn]; exact dLoop_eq ..

theorem pre_atB : ∀ (k : Nat) (c : Code) (A : List Value) (H : AH), dCode P G b c A H kn kx kr kp = dCode P G b (Code.pre k c) A H (fun A H => dCode P G b (Code.post k c) A H kn kx kr kp) kx kr kp := by
  intro k
  induction k with
  | zero => intro c A H; cases c <;> rfl
  | succ k ih =>
    intro c A H
    cases c with
    | seq x y =>
      have e : (fun A H => dCode P G b y A H kn kx kr kp) = fun A H => dCode P G b (Code.pre k y) A H (fun A H => dCode P G b (Code.post k y) A H kn kx kr kp) kx kr kp := by
        funext A H; exact ih y A H
      show dCode P G b x A H (fun A H => dCode P G b y A H kn kx kr kp) kx kr kp = _
      rw [e]; rfl
    | _ => rfl
variable {l T : Option R}
theorem pre_toB {c : Code} {k D : Nat} {n : List Value → AH → Option R} (h0 : l = dCode P G b c A H kn kx kr kp) (hn : n = fun A H => dCode P G b (Code.post k c) A H kn kx kr kp) (hD : Resp D n)
    (h1 : dCode P G b (Code.pre k c) A H (fun A H => n (clear D A) H) kx kr kp = T) : l = T := by
  have e : (fun A H => n (clear D A) H) = n := by
    funext A H
    exact (hD A (clear D A) H (clear_agree D A)).symm
  rw [e, hn] at h1
  exact h0.trans ((pre_atB k c A H).trans h1)
theorem cond_toB {c x y : Code} {e : Operand} (h0 : l = dCode P G b c A H kn kx kr kp) (h : c = .cond e x y) (h1 : condK (aEv A e) (dCode P G b x A H kn kx kr kp) (dCode P G b y A H kn kx kr kp) = T) : l = T := h0.trans ((cond_atB h).trans h1)
theorem block_toB {c x : Code} {id D : Nat} {n : Nat → List Value → AH → Option R} (h0 : l = dCode P G b c A H kn kx kr kp) (h : c = .block id x) (hn : n = fun i A H => if i = id then kn A H else kx i A H) (hD : ∀ i, Resp D (n i))
    (h1 : dCode P G b x A H kn (fun i A H => n i (clear D A) H) kr kp = T) : l = T := h0.trans ((block_clearB h hn hD).trans h1)
theorem loop_inB {c x : Code} {D : Nat} {n : List Value → AH → Option R} (h0 : l = dCode P G b c A H kn kx kr kp) (h : c = .loop x) (hn : n = fun A H => dLoop P G b x A H kx kr kp) (hD : Resp D n) (h1 : n (clear D A) H = T) : l = T :=
  h0.trans ((loop_atB h).trans ((loop_slotsB hn hD).trans h1))
theorem loop_toB {x : Code} {D : Nat} {n : List Value → AH → Option R} (h0 : l = dLoop P G b x A H kx kr kp) (hn : n = fun A H => dLoop P G b x A H kx kr kp) (hD : Resp D n)
    (h1 : dCode P G b x A H (fun A H => n (clear D A) H) kx kr kp = T) : l = T := h0.trans ((loop_clearB hn hD).trans h1)
end
abbrev KPT := Value → List Value → AH → OV
noncomputable abbrev DK (P : Program) (G : List Nat) (b : CallB) (c : Code) (kn : KK) (kx : KX) (kr : KK) (kp : KPT) : KK := fun A H => dCode P G b c A H kn kx kr kp
noncomputable abbrev DLk (P : Program) (G : List Nat) (b : CallB) (c : Code) (kx : KX) (kr : KK) (kp : KPT) : KK := fun A H => dLoop P G b c A H kx kr kp
section
variable {P : Program} {G : List Nat} {b : CallB} {A : List Value} {H : AH} {kn : KK} {kx : KX} {kr : KK} {kp : KPT} {l T : OV}
theorem rfB {rs : List ResultVar} {D : Nat} (h : okRes D rs = true := by kernel_rfl) : Resp D (dFin P rs) := resp_finB h
theorem rcB {c : Code} {D Dn Dx Dr : Nat} (hn : Resp Dn kn) (hx : ∀ i, Resp Dx (kx i)) (hr : Resp Dr kr) {Dp : Nat} (hp : ∀ v, Resp Dp (kp v)) (h : (okInto c D Dn && (subB D Dx && (subB D Dr && subB D Dp))) = true := by kernel_rfl) : Resp D (DK P G b c kn kx kr kp) := by
  simp only [Bool.and_eq_true] at h
  exact resp_codeB h.1 hn (fun i => (hx i).le h.2.1) (hr.le h.2.2.1) (fun v => (hp v).le h.2.2.2)
theorem rlB {c : Code} {D Dx Dr : Nat} (hx : ∀ i, Resp Dx (kx i)) (hr : Resp Dr kr) {Dp : Nat} (hp : ∀ v, Resp Dp (kp v)) (h : (okInto c D D && (subB D Dx && (subB D Dr && subB D Dp))) = true := by kernel_rfl) : Resp D (DLk P G b c kx kr kp) := by
  simp only [Bool.and_eq_true] at h
  exact resp_loopB h.1 (fun i => (hx i).le h.2.1) (hr.le h.2.2.1) (fun v => (hp v).le h.2.2.2)
theorem ptB {c : Code} {D : Nat} {n : KK} (h0 : l = dCode P G b c A H kn kx kr kp) (k : Nat) (hD : Resp D n) (h1 : dCode P G b (Code.pre k c) A H (clr D n) kx kr kp = T)
    (hn : n = fun A H => dCode P G b (Code.post k c) A H kn kx kr kp := by kernel_rfl) : l = T := pre_toB h0 hn hD h1
theorem ctB {c : Code} (h0 : l = dCode P G b c A H kn kx kr kp) (x y : Code) (e : Operand) {v : Value} {X Y : OV} (hx : dCode P G b x A H kn kx kr kp = X) (hy : dCode P G b y A H kn kx kr kp = Y)
    (h : c = .cond e x y := by kernel_rfl) (he : aEv A e = v := by kernel_rfl) : l = condK v X Y := cond_toB h0 h (condK_to he hx hy)
theorem btB {c : Code} {D : Nat} {n : KX} (h0 : l = dCode P G b c A H kn kx kr kp) (x : Code) (id : Nat) (hD : ∀ i, Resp D (n i)) (h1 : dCode P G b x A H kn (clx D n) kr kp = T)
    (h : c = .block id x := by kernel_rfl) (hn : n = fun i A H => if i = id then kn A H else kx i A H := by kernel_rfl) : l = T := block_toB h0 h hn hD h1
theorem liB {c : Code} {D : Nat} {n : KK} (h0 : l = dCode P G b c A H kn kx kr kp) (x : Code) (hD : Resp D n) (h1 : n (clear D A) H = T) (h : c = .loop x := by kernel_rfl)
    (hn : n = fun A H => dLoop P G b x A H kx kr kp := by kernel_rfl) : l = T := loop_inB h0 h hn hD h1
theorem ltB' {x : Code} {D : Nat} {n : KK} (h0 : l = dLoop P G b x A H kx kr kp) (hD : Resp D n) (h1 : dCode P G b x A H (clr D n) kx kr kp = T)
    (hn : n = fun A H => dLoop P G b x A H kx kr kp := by kernel_rfl) : l = T := loop_toB h0 hn hD h1
noncomputable def eBodyC (D : Nat) (P : Program) (G : List Nat) (b : CallB) (n : Nat) (rs : List ResultVar) (s : RSh) (args : List Value) (H : AH) : OV :=
  cCode P G (nrm b) s.c1 (args ++ List.replicate (n - args.length) undef) H
    (fun A1 H1 => if A1.length ≤ s.t then none else cStep P G (nrm b) s.ops2 s.om A1 H1 fun A2 H2 =>
      dCode P G b s.c3 (clear D A2) H2 (cFin P rs) kx0 (cFin P rs) fun v A3 H3 => (mendF P G s.k (s.cap.toList.map (aEv A1)) v H3).bind fun H4 => cFin P rs A3 H4)
    kx0 (cFin P rs)
theorem eBody_clear {D Dr n : Nat} {rs : List ResultVar} {s : RSh} {args : List Value} (h : (okInto s.c3 D Dr && (subB D fullD && (subB D Dr && subB D Dr))) = true) (hr : okRes Dr rs = true) : eBody P G b n rs s args H = eBodyC D P G b n rs s args H := by
  unfold eBody eBodyC
  congr 1
  funext A1 H1
  split
  · rfl
  · congr 1
    funext A2 H2
    exact rcB (P := P) (G := G) (b := b) (c := s.c3) (Dn := Dr) (Dx := fullD) (Dr := Dr) (Dp := Dr) (rf hr) kx0_d (rf hr) (fun v => resp_mend (m := mendF P G s.k (s.cap.toList.map (aEv A1)) v) (rf hr)) h A2 (clear D A2) H2 (clear_agree D A2)
end
/-- The shape of a function that defers a closure. -/
def rsh (fn : Func) : RSh := match rshape (bodyOf fn) with
  | some s => s
  | none => ⟨.skip, 0, #[], ⟨none, .move (.const .nilFunc), 0, "", #[], none⟩, ⟨none, .move (.const .nilFunc), 0, "", #[], none⟩, 0, 0, #[], .skip⟩
theorem foe2 {P : Program} {G : List Nat} {f : Nat} {fn : Func} (D Dr k : Nat) (hf : P.funcs[f]? = some fn) (hh : Harmless P k) {args : List Value} {H : AH} {t : OV} {r : Value × AH} (e : eBodyC D P G (bF P G) fn.ntmps fn.results.toList (rsh fn) args H = t) (h : t = some r)
    (hk : (rsh fn).k = k := by kernel_rfl) (h1 : (okInto (rsh fn).c3 D Dr && (subB D fullD && (subB D Dr && subB D Dr))) = true := by kernel_rfl) (h2 : okRes Dr fn.results.toList = true := by kernel_rfl)
    (hb : fn.body.isSome = true := by kernel_rfl) (hn : (fn.name == "runtime.NumGoroutine") = false := by kernel_rfl) (hd : rshape (bodyOf fn) = some (rsh fn) := by kernel_rfl) (hl : libName fn.name = false := by kernel_rfl) : aF P G f args H = some r :=
  foe hf (by rw [hk]; exact hh) ((eBody_clear h1 h2).trans (e.trans h)) hb hn hd hl
end Go.Proofs.YthagelbepgcolaaGreatDoor.Gst
