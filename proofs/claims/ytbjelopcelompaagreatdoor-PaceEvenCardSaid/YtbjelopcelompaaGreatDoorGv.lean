/- The abstract run, told with what comes behind: so a function's text becomes a plain Lean function by reduction alone. -/
import Derived.Test.YtbjelopcelompaaGreatDoorGu
import Derived.KernelRfl
namespace Go.Proofs.YtbjelopcelompaaGreatDoor.Gst
open Go Go.RowKit
set_option linter.unusedSimpArgs false

section
variable {R : Type}

/-- What the types tell: it is not held against what the run tells. -/
abbrev tb {α β : Type} (x : Option α) (f : α → Option β) : Option β :=
  match x with
  | some a => f a
  | none => none
theorem tb_eq {α β : Type} (x : Option α) (f : α → Option β) : tb x f = x.bind f := by cases x <;> rfl
abbrev cBuiltin0 (P : Program) (b : Builtin) (argTypes : Array TypeId) (args : List Value) (H : AH) (k : Value → AH → Option R) : Option R :=
  match b, args with
  | .len, [x] => match (argTypes[0]?).bind fun t => P.underlying t with
    | some (.slice _) => match x with | .slice _ n _ => k (.int .i64 n) H | _ => none
    | some .string => match x with | .string s => k (.int .i64 s.size) H | _ => none
    | some (.map _ _) => (pLenM x H).bind fun v => k v H
    | _ => none
  | .max, args => (pMax args).bind fun v => k v H
  | .min, args => (pMin args).bind fun v => k v H
  | .append, [s, x] => (argTypes[0]?).bind fun t => (elemOf' P t).bind fun el => (szOf P el).bind fun e => (bytesOf' P el).bind fun by' => (zeroOf P el).bind fun z =>
      if z.cells.size = e ∧ (argTypes[1]?).bind (fun u => elemOf' P u) = some el then (pApp e by' s x H).bind fun r => k r.1 r.2 else none
  | .delete, [m, key] => (argTypes[0]?).bind fun t => (mapTypes P t).bind fun kt => (flatKey P kt.1).bind fun fl => (pDelete fl m key H).bind fun H' => k (.tuple #[]) H'
  | _, _ => none

abbrev cOp0 (P : Program) (call : CallF) (ev : Operand → Value) (o : Oper) (H : AH) (k : Value → AH → Option R) : Option R :=
  match o.op with
  | .move x => k (ev x) H
  | .assign x => k (ev x) H
  | .pick c a b => (pPick (ev c) (ev a) (ev b)).bind fun v => k v H
  | .alloc t => (zeroOf P t).bind fun z => k (.pointer (some ⟨H.size, 0, none⟩)) (H.push (.cells false z.cells.toList))
  | .box _ x => k (.pointer (some ⟨H.size, 0, none⟩)) (H.push (.cells false (ev x).cells.toList))
  | .build t parts => match P.underlying t with
    | some (.struct fs) => (zeroOf P t).bind fun z => (placesOf P fs.toList).bind fun ps => (pFill (ps[·]?) z.cells.toList (parts.toList.map fun p => (p.1, ev p.2))).bind fun cs => k (.agg cs.toArray) H
    | some (.array _ el) => (zeroOf P t).bind fun z => (szOf P el).bind fun e => (pFill (fun i => some (i * e, e)) z.cells.toList (parts.toList.map fun p => (p.1, ev p.2))).bind fun cs => k (.agg cs.toArray) H
    | _ => none
  | .buildSlice t len parts => (elemOf' P t).bind fun el => (szOf P el).bind fun e => (zeroOf P el).bind fun z =>
      if 0 < e ∧ z.cells.size = e ∧ len * e ≤ 2 ^ 24 then
        (pFill (fun i => some (i * e, e)) (List.replicate len z.cells.toList).flatten (parts.toList.map fun p => (p.1, ev p.2))).bind fun cs => k (.slice (some ⟨H.size, 0, none⟩) len e) (H.push (.cells false cs))
      else none
  | .load t a => (aggOf P t).bind fun g => match g with
    | some n => (pLdN n (ev a) H).bind fun v => k v H
    | none => (pLd1 (ev a) H).bind fun v => k v H
  | .store t a x => (szOf P t).bind fun n => (pSt n (ev a) (ev x) H).bind fun H' => k undef H'
  | .nilCheck x => (pNil (ev x)).bind fun v => k v H
  | .binOp op t x y _ => (pBin (clsOf P t) op (ev x) (ev y)).bind fun v => k v H
  | .unOp op _ x => (pUn op (ev x)).bind fun v => k v H
  | .convert src dst x => match P.underlying src with
    | some _ => (pConv (kindOf P dst) (ev x)).bind fun v => k v H
    | none => none
  | .makeFunc fn first captured => k (.func fn (first.map ev) (captured.map ev)) H
  | .makeMap _ none => k (.map (some H.size)) (H.push (.map [] 0))
  | .makeSlice t l c => (elemOf' P t).bind fun el => (szOf P el).bind fun e => (bytesOf' P el).bind fun by' => (zeroOf P el).bind fun z => (pMake z.cells.toList e by' (ev l) (ev c) H).bind fun r => k r.1 r.2
  | .slice t x lo hi none => (elemOf' P t).bind fun el => (szOf P el).bind fun e => (pSlice e (ev x) (lo.map ev) (hi.map ev)).bind fun v => k v H
  | .slice t x none (some hi) (some mx) => (elemOf' P t).bind fun el => (szOf P el).bind fun _ => (pSlice0 (ev x) (ev hi) (ev mx)).bind fun v => k v H
  | .fieldAddr s x f => (fieldOf P s f).bind fun f => (szOf P f.type).bind fun n => if n = 0 then none else (pFld f.offset (ev x)).bind fun v => k v H
  | .field s x f => (fieldOf P s f).bind fun f => (aggOf P f.type).bind fun n => (pPart n f.offset (ev x)).bind fun v => k v H
  | .indexAddr t x i => match P.underlying t with
    | some (.slice el) => (szOf P el).bind fun e => (pIdx e (ev x) (ev i)).bind fun v => k v H
    | some (.array len el) => (szOf P el).bind fun e => (pIdxA len e (ev x) (ev i)).bind fun v => k v H
    | _ => none
  | .index t x i => match P.underlying t with
    | some (.array len el) => (szOf P el).bind fun e => (aggOf P el).bind fun n => (pIndexV len n e (ev x) (ev i)).bind fun v => k v H
    | some .string => (pIndexS (ev x) (ev i)).bind fun v => k v H
    | _ => none
  | .lookup t m key ok => (mapTypes P t).bind fun kt => (flatKey P kt.1).bind fun fl => (zeroOf P kt.2).bind fun z => (pLookup fl z (ev m) (ev key) ok H).bind fun v => k v H
  | .mapUpdate t m key x => (mapTypes P t).bind fun kt => (flatKey P kt.1).bind fun fl => (pUpdate fl (ev m) (ev key) (ev x) H).bind fun H' => k undef H'
  | .extract t i => (pExtract (ev t) i).bind fun v => k v H
  | .call c => match c.callee with
    | .builtin b => cBuiltin0 P b c.argTypes (c.args.toList.map ev) H k
    | .value f => (pCallee (ev f) (c.args.toList.map ev)).bind fun fa => (call fa.1 fa.2 H).bind fun r => k r.1 r.2
    | _ => none
  | _ => none

abbrev cBuiltin (P : Program) (b : Builtin) (argTypes : Array TypeId) (args : List Value) (H : AH) (k : Value → AH → Option R) : Option R :=
  match b, args with
  | .len, [x] => match (argTypes[0]?).bind fun t => P.underlying t with
    | some (.slice _) => match x with | .slice _ n _ => k (.int .i64 n) H | _ => none
    | some .string => match x with | .string s => k (.int .i64 s.size) H | _ => none
    | some (.map _ _) => (pLenM x H).bind fun v => k v H
    | _ => none
  | .max, args => (pMax args).bind fun v => k v H
  | .min, args => (pMin args).bind fun v => k v H
  | .append, [s, x] => tb (argTypes[0]?) fun t => tb (elemOf' P t) fun el => tb (szOf P el) fun e => tb (bytesOf' P el) fun by' => tb (zeroOf P el) fun z =>
      if z.cells.size = e ∧ (argTypes[1]?).bind (fun u => elemOf' P u) = some el then (pApp e by' s x H).bind fun r => k r.1 r.2 else none
  | .delete, [m, key] => tb (argTypes[0]?) fun t => tb (mapTypes P t) fun kt => tb (flatKey P kt.1) fun fl => (pDelete fl m key H).bind fun H' => k (.tuple #[]) H'
  | _, _ => none

abbrev cOp (P : Program) (call : CallF) (ev : Operand → Value) (o : Oper) (H : AH) (k : Value → AH → Option R) : Option R :=
  match o.op with
  | .move x => k (ev x) H
  | .assign x => k (ev x) H
  | .pick c a b => (pPick (ev c) (ev a) (ev b)).bind fun v => k v H
  | .alloc t => tb (zeroOf P t) fun z => k (.pointer (some ⟨H.size, 0, none⟩)) (H.push (.cells false z.cells.toList))
  | .box _ x => k (.pointer (some ⟨H.size, 0, none⟩)) (H.push (.cells false (ev x).cells.toList))
  | .build t parts => match P.underlying t with
    | some (.struct fs) => tb (zeroOf P t) fun z => tb (placesOf P fs.toList) fun ps => (pFill (ps[·]?) z.cells.toList (parts.toList.map fun p => (p.1, ev p.2))).bind fun cs => k (.agg cs.toArray) H
    | some (.array _ el) => tb (zeroOf P t) fun z => tb (szOf P el) fun e => (pFill (fun i => some (i * e, e)) z.cells.toList (parts.toList.map fun p => (p.1, ev p.2))).bind fun cs => k (.agg cs.toArray) H
    | _ => none
  | .buildSlice t len parts => tb (elemOf' P t) fun el => tb (szOf P el) fun e => tb (zeroOf P el) fun z =>
      if 0 < e ∧ z.cells.size = e ∧ len * e ≤ 2 ^ 24 then
        (pFill (fun i => some (i * e, e)) (List.replicate len z.cells.toList).flatten (parts.toList.map fun p => (p.1, ev p.2))).bind fun cs => k (.slice (some ⟨H.size, 0, none⟩) len e) (H.push (.cells false cs))
      else none
  | .load t a => tb (aggOf P t) fun g => match g with
    | some n => (pLdN n (ev a) H).bind fun v => k v H
    | none => (pLd1 (ev a) H).bind fun v => k v H
  | .store t a x => tb (szOf P t) fun n => (pSt n (ev a) (ev x) H).bind fun H' => k undef H'
  | .nilCheck x => (pNil (ev x)).bind fun v => k v H
  | .binOp op t x y _ => (pBin (clsOf P t) op (ev x) (ev y)).bind fun v => k v H
  | .unOp op _ x => (pUn op (ev x)).bind fun v => k v H
  | .convert src dst x => match P.underlying src with
    | some _ => (pConv (kindOf P dst) (ev x)).bind fun v => k v H
    | none => none
  | .makeFunc fn first captured => k (.func fn (first.map ev) (captured.map ev)) H
  | .makeMap _ none => k (.map (some H.size)) (H.push (.map [] 0))
  | .makeSlice t l c => tb (elemOf' P t) fun el => tb (szOf P el) fun e => tb (bytesOf' P el) fun by' => tb (zeroOf P el) fun z => (pMake z.cells.toList e by' (ev l) (ev c) H).bind fun r => k r.1 r.2
  | .slice t x lo hi none => tb (elemOf' P t) fun el => tb (szOf P el) fun e => (pSlice e (ev x) (lo.map ev) (hi.map ev)).bind fun v => k v H
  | .slice t x none (some hi) (some mx) => tb (elemOf' P t) fun el => tb (szOf P el) fun _ => (pSlice0 (ev x) (ev hi) (ev mx)).bind fun v => k v H
  | .fieldAddr s x f => tb (fieldOf P s f) fun f => tb (szOf P f.type) fun n => if n = 0 then none else (pFld f.offset (ev x)).bind fun v => k v H
  | .field s x f => tb (fieldOf P s f) fun f => tb (aggOf P f.type) fun n => (pPart n f.offset (ev x)).bind fun v => k v H
  | .indexAddr t x i => match P.underlying t with
    | some (.slice el) => tb (szOf P el) fun e => (pIdx e (ev x) (ev i)).bind fun v => k v H
    | some (.array len el) => tb (szOf P el) fun e => (pIdxA len e (ev x) (ev i)).bind fun v => k v H
    | _ => none
  | .index t x i => match P.underlying t with
    | some (.array len el) => tb (szOf P el) fun e => tb (aggOf P el) fun n => (pIndexV len n e (ev x) (ev i)).bind fun v => k v H
    | some .string => (pIndexS (ev x) (ev i)).bind fun v => k v H
    | _ => none
  | .lookup t m key ok => tb (mapTypes P t) fun kt => tb (flatKey P kt.1) fun fl => tb (zeroOf P kt.2) fun z => (pLookup fl z (ev m) (ev key) ok H).bind fun v => k v H
  | .mapUpdate t m key x => tb (mapTypes P t) fun kt => tb (flatKey P kt.1) fun fl => (pUpdate fl (ev m) (ev key) (ev x) H).bind fun H' => k undef H'
  | .extract t i => (pExtract (ev t) i).bind fun v => k v H
  | .call c => match c.callee with
    | .builtin b => cBuiltin P b c.argTypes (c.args.toList.map ev) H k
    | .value f => (pCallee (ev f) (c.args.toList.map ev)).bind fun fa => (call fa.1 fa.2 H).bind fun r => k r.1 r.2
    | _ => none
  | _ => none

theorem map_pair {α β γ : Type} (x : Option α) (b : β) (k : α → β → Option γ) : ((x.map (·, b)).bind fun r => k r.1 r.2) = x.bind fun v => k v b := by cases x <;> rfl
theorem map_undef {β γ : Type} (x : Option β) (v : Value) (k : Value → β → Option γ) : ((x.map fun H' => (v, H')).bind fun r => k r.1 r.2) = x.bind fun H' => k v H' := by cases x <;> rfl

theorem cBuiltin0_eq (P : Program) (b : Builtin) (ts : Array TypeId) (args : List Value) (H : AH) (k : Value → AH → Option R) : cBuiltin0 P b ts args H k = (aBuiltin P b ts args H).bind fun r => k r.1 r.2 := by
  cases b with
  | len =>
    match args with
    | [] => rfl
    | [x] =>
      simp only [cBuiltin0, aBuiltin]
      cases (ts[0]?).bind fun t => P.underlying t with
      | none => rfl
      | some d => cases d <;> first | rfl | (cases x <;> rfl) | (simp only [map_pair])
    | x :: y :: zs => rfl
  | max => simp only [cBuiltin0, aBuiltin, map_pair]
  | min => simp only [cBuiltin0, aBuiltin, map_pair]
  | append =>
    match args with
    | [] => rfl
    | [x] => rfl
    | [s, x] =>
      simp only [cBuiltin0, aBuiltin, Option.bind_assoc]
      congr 1; funext t; congr 1; funext el; congr 1; funext e; congr 1; funext b; congr 1; funext z
      split
      · rfl
      · rfl
    | x :: y :: z :: zs => rfl
  | delete =>
    match args with
    | [] => rfl
    | [x] => rfl
    | [s, x] => simp only [cBuiltin0, aBuiltin, Option.bind_assoc, map_undef]
    | x :: y :: z :: zs => rfl
  | _ => rfl

theorem cOp0_eq (P : Program) (call : CallF) (ev : Operand → Value) (o : Oper) (H : AH) (k : Value → AH → Option R) : cOp0 P call ev o H k = (aOp P call ev o H).bind fun r => k r.1 r.2 := by
  obtain ⟨dst, op, type, pos, after, guard⟩ := o
  cases op with
  | call c =>
    obtain ⟨callee, args, ats⟩ := c
    cases callee with
    | value f => simp only [cOp0, aOp, Option.bind_assoc]
    | invoke r m => rfl
    | builtin b => simp only [cOp0, aOp]; exact cBuiltin0_eq ..
  | makeMap t r => cases r <;> rfl
  | slice t x lo hi mx =>
    cases mx with
    | none => simp only [cOp0, aOp, Option.bind_assoc, map_pair]
    | some m => cases lo <;> cases hi <;> first | rfl | (simp only [cOp0, aOp, Option.bind_assoc, map_pair])
  | load t a =>
    simp only [cOp0, aOp, Option.bind_assoc]
    congr 1
    funext g
    cases g <;> simp only [map_pair]
  | build t parts =>
    simp only [cOp0, aOp]
    cases P.underlying t with
    | none => rfl
    | some d => cases d <;> first | rfl | (simp only [Option.bind_assoc, Option.bind_map]; rfl)
  | buildSlice t len parts =>
    simp only [cOp0, aOp, Option.bind_assoc]
    congr 1; funext el; congr 1; funext e; congr 1; funext z
    split
    · rw [Option.bind_map]; rfl
    · rfl
  | fieldAddr s x f =>
    simp only [cOp0, aOp, Option.bind_assoc]
    congr 1; funext el; congr 1; funext e
    split
    · rfl
    · rw [map_pair]
  | alloc t => simp only [cOp0, aOp, Option.bind_map]; rfl
  | indexAddr t x i =>
    simp only [cOp0, aOp]
    cases P.underlying t with
    | none => rfl
    | some d => cases d <;> first | rfl | (simp only [Option.bind_assoc, map_pair])
  | index t x i =>
    simp only [cOp0, aOp]
    cases P.underlying t with
    | none => rfl
    | some d => cases d <;> first | rfl | (simp only [Option.bind_assoc, map_pair])
  | convert s d x =>
    simp only [cOp0, aOp]
    cases P.underlying s with
    | none => rfl
    | some d => simp only [map_pair]
  | store t x y => simp only [cOp0, aOp, Option.bind_assoc, map_undef]
  | mapUpdate t m key x => simp only [cOp0, aOp, Option.bind_assoc, map_undef]
  | _ => first | rfl | (simp only [cOp0, aOp, Option.bind_assoc, map_pair]; done)


theorem cBuiltin_0 (P : Program) (b : Builtin) (ts : Array TypeId) (args : List Value) (H : AH) (k : Value → AH → Option R) : cBuiltin P b ts args H k = cBuiltin0 P b ts args H k := by
  unfold cBuiltin cBuiltin0
  simp only [tb_eq]
theorem cOp_0 (P : Program) (call : CallF) (ev : Operand → Value) (o : Oper) (H : AH) (k : Value → AH → Option R) : cOp P call ev o H k = cOp0 P call ev o H k := by
  unfold cOp cOp0
  simp only [tb_eq, cBuiltin_0]
theorem cBuiltin_eq (P : Program) (b : Builtin) (ts : Array TypeId) (args : List Value) (H : AH) (k : Value → AH → Option R) : cBuiltin P b ts args H k = (aBuiltin P b ts args H).bind fun r => k r.1 r.2 := (cBuiltin_0 ..).trans (cBuiltin0_eq ..)
theorem cOp_eq (P : Program) (call : CallF) (ev : Operand → Value) (o : Oper) (H : AH) (k : Value → AH → Option R) : cOp P call ev o H k = (aOp P call ev o H).bind fun r => k r.1 r.2 := (cOp_0 ..).trans (cOp0_eq ..)

/-- Does it leave the heap as it is? -/
def isLook (op : Op) : Bool := opK op == 0 || opK op == 2
theorem look_same {P : Program} {call : CallF} {ev : Operand → Value} {o : Oper} {H : AH} (h : isLook o.op = true) : aOp P call ev o H = (cOp P call ev o H fun v _ => some v).map (·, H) := by
  rw [cOp_eq]
  cases hx : aOp P call ev o H with
  | none => rfl
  | some r =>
    obtain ⟨v, H'⟩ := r
    simp only [Option.bind_some, Option.map_some]
    unfold isLook at h
    simp only [Bool.or_eq_true, beq_iff_eq] at h
    rcases h with h | h
    · rw [(aOp_pure h hx).1]
    · rw [aOp_rd h] at hx
      obtain ⟨y, _, e⟩ := Option.map_eq_some_iff.1 hx
      rw [(Prod.mk.inj e).2]

/-- An operation that a guard may leave out. -/
abbrev cStep (P : Program) (G : List Nat) (call : CallF) (ops : Array Oper) (o : Oper) (A : List Value) (H : AH) (k : List Value → AH → Option R) : Option R :=
  match o.op.operands.toList.all (okX G) with
  | true => match o.guard with
    | none => cOp P call (aEv A) o H fun v H' => k (aPut A o.dst v) H'
    | some g => match isLook o.op with
      | true => (match aYield ops A g.1 == some g.2 with
        | true => cOp P call (aEv A) o H fun v _ => some v
        | false => some undef).bind fun v => k (aPut A o.dst v) H
      | false => (match aYield ops A g.1 == some g.2 with
        | true => aOp P call (aEv A) o H
        | false => some (undef, H)).bind fun r => k (aPut A o.dst r.1) r.2
  | false => none

theorem cStep_eq (P : Program) (G : List Nat) (call : CallF) (ops : Array Oper) (o : Oper) (A : List Value) (H : AH) (k : List Value → AH → Option R) : cStep P G call ops o A H k = (aStep P G call ops o A H).bind fun s => k s.1 s.2 := by
  unfold cStep aStep
  cases o.op.operands.toList.all (okX G) with
  | false => rfl
  | true =>
    simp only [if_true]
    unfold Region.wanted
    cases o.guard with
    | none =>
      simp only [if_true]
      rw [cOp_eq, Option.bind_map]; rfl
    | some g =>
      obtain ⟨g, want⟩ := g
      simp only
      cases hl : isLook o.op with
      | true =>
        simp only
        by_cases h : (aYield ops A g == some want) = true
        · rw [if_pos h, h, look_same hl]
          simp only
          cases (cOp P call (aEv A) o H fun v _ => some v) <;> rfl
        · rw [if_neg h, Bool.eq_false_iff.2 h]; rfl
      | false =>
        simp only
        by_cases h : (aYield ops A g == some want) = true
        · rw [if_pos h, h, Option.bind_map]; rfl
        · rw [if_neg h, Bool.eq_false_iff.2 h]; rfl

abbrev cOps (P : Program) (G : List Nat) (call : CallF) (ops : Array Oper) : List Oper → List Value → AH → (List Value → AH → Option R) → Option R
  | [], A, H, k => k A H
  | o :: rest, A, H, k => cStep P G call ops o A H fun A' H' => cOps P G call ops rest A' H' k

theorem cOps_eq (P : Program) (G : List Nat) (call : CallF) (ops : Array Oper) : ∀ (l : List Oper) (A : List Value) (H : AH) (k : List Value → AH → Option R), cOps P G call ops l A H k = (aOps P G call ops l A H).bind fun s => k s.1 s.2 := by
  intro l
  induction l with
  | nil => intro A H k; rfl
  | cons o l ih =>
    intro A H k
    simp only [cOps, aOps]
    rw [cStep_eq, Option.bind_assoc]
    congr 1
    funext s
    exact ih _ _ _

/-! ### Readings whose order with effects is left open: held against each other where the later one stands -/
/-- These must be alike, or the run comes to nothing. -/
noncomputable def eqK {R : Type} (x y : Option Value) (k : Option R) : Option R := chk (x = y) k
theorem eqK_of {R : Type} {x y : Option Value} (h : x = y) (k : Option R) : eqK x y k = k := chk_true h k
theorem eqK_rfl {R : Type} (x : Option Value) (k : Option R) : eqK x x k = k := chk_true rfl k

noncomputable abbrev cks {R : Type} (j : Nat) (hist : List ((AH → Option Value) × AH)) (rd : AH → Option Value) (H H' : AH) (k : Option R) : List (Nat × Nat) → Option R
  | [] => k
  | pq :: rest => match pq.1 == j with
    | true => match Nat.blt pq.2 j with
      | true => match hist[pq.2]? with
        | some h => eqK (rd h.2) (rd H) (cks j hist rd H H' k rest)
        | none => none
      | false => cks j hist rd H H' k rest
    | false => match pq.2 == j with
      | true => match Nat.blt pq.1 j with
        | true => match hist[pq.1]? with
          | some h => eqK (h.1 H') (h.1 h.2) (cks j hist rd H H' k rest)
          | none => none
        | false => cks j hist rd H H' k rest
      | false => cks j hist rd H H' k rest

theorem chk_bind {α β : Type} (p : Prop) (x : Option α) (k : α → Option β) : (chk p x).bind k = chk p (x.bind k) := by unfold chk; split <;> rfl
theorem cks_bind {α β : Type} {j : Nat} {hist : List ((AH → Option Value) × AH)} {rd : AH → Option Value} {H H' : AH} (x : Option α) (k : α → Option β) : ∀ l, (cks j hist rd H H' x l).bind k = cks j hist rd H H' (x.bind k) l := by
  intro l
  induction l with
  | nil => rfl
  | cons p l ih =>
    simp only [cks]
    cases p.1 == j with
    | true =>
      cases Nat.blt p.2 j with
      | true =>
        simp only
        cases hist[p.2]? with
        | none => rfl
        | some h => simp only [eqK]; rw [chk_bind, ih]
      | false => exact ih
    | false =>
      cases p.2 == j with
      | true =>
        cases Nat.blt p.1 j with
        | true =>
          simp only
          cases hist[p.1]? with
          | none => rfl
          | some h => simp only [eqK]; rw [chk_bind, ih]
        | false => exact ih
      | false => exact ih

/-- What is held against each other at the j-th. -/
def ckP (j : Nat) (hist : List ((AH → Option Value) × AH)) (rd : AH → Option Value) (H H' : AH) (p : Nat × Nat) : Prop :=
  (p.1 = j → p.2 < j → ∃ h, hist[p.2]? = some h ∧ rd h.2 = rd H) ∧ (p.2 = j → p.1 < j → ∃ h, hist[p.1]? = some h ∧ h.1 H' = h.1 h.2)
theorem chk_iff {α : Type} {p : Prop} {x : Option α} {r : α} : chk p x = some r ↔ p ∧ x = some r := ⟨chk_some, fun h => by rw [chk_true h.1]; exact h.2⟩
theorem cks_iff {α : Type} {j : Nat} {hist : List ((AH → Option Value) × AH)} {rd : AH → Option Value} {H H' : AH} {x : Option α} {r : α} : ∀ {l}, cks j hist rd H H' x l = some r ↔ (∀ p ∈ l, ckP j hist rd H H' p) ∧ x = some r := by
  intro l
  induction l with
  | nil => simp [cks]
  | cons p l ih =>
    have split : (∀ q ∈ p :: l, ckP j hist rd H H' q) ↔ ckP j hist rd H H' p ∧ ∀ q ∈ l, ckP j hist rd H H' q := by simp
    rw [split, and_assoc, ← ih]
    simp only [cks]
    by_cases h1 : p.1 = j
    · have e1 : (p.1 == j) = true := by simpa using h1
      rw [e1]
      simp only
      by_cases h2 : p.2 < j
      · have e2 : Nat.blt p.2 j = true := by simpa [Nat.blt_eq] using h2
        rw [e2]
        simp only
        have hn : ¬ p.2 = j := by omega
        unfold ckP
        cases hist[p.2]? with
        | none => simp [h1, h2]
        | some h => simp only [eqK]; rw [chk_iff]; simp [h1, h2, hn]
      · have e2 : Nat.blt p.2 j = false := by rw [Bool.eq_false_iff]; intro h; exact h2 (by simpa [Nat.blt_eq] using h)
        rw [e2]
        simp only
        have : ckP j hist rd H H' p := ⟨fun _ h => absurd h h2, fun _ h => absurd h (by omega)⟩
        simp [this]
    · have e1 : (p.1 == j) = false := by simpa using h1
      rw [e1]
      simp only
      by_cases h2 : p.2 = j
      · have e2 : (p.2 == j) = true := by simpa using h2
        rw [e2]
        simp only
        by_cases h3 : p.1 < j
        · have e3 : Nat.blt p.1 j = true := by simpa [Nat.blt_eq] using h3
          rw [e3]
          simp only
          unfold ckP
          cases hist[p.1]? with
          | none => simp [h1, h2, h3]
          | some h => simp only [eqK]; rw [chk_iff]; simp [h1, h2, h3]
        · have e3 : Nat.blt p.1 j = false := by rw [Bool.eq_false_iff]; intro h; exact h3 (by simpa [Nat.blt_eq] using h)
          rw [e3]
          simp only
          have : ckP j hist rd H H' p := ⟨fun h => absurd h h1, fun _ h => absurd h h3⟩
          simp [this]
      · have e2 : (p.2 == j) = false := by simpa using h2
        rw [e2]
        simp only
        have : ckP j hist rd H H' p := ⟨fun h => absurd h h1, fun h => absurd h h2⟩
        simp [this]

abbrev rdOf (P : Program) (A : List Value) (o : Oper) : AH → Option Value := fun H => aRd P (aEv A) o.op H
noncomputable def aOpsC (P : Program) (G : List Nat) (call : CallF) (ops : Array Oper) (pairs : List (Nat × Nat)) : List Oper → Nat → List ((AH → Option Value) × AH) → List Value → AH → Option (List Value × AH)
  | [], _, _, A, H => some (A, H)
  | o :: rest, j, hist, A, H => (aStep P G call ops o A H).bind fun s => cks j hist (rdOf P A o) H s.2 (aOpsC P G call ops pairs rest (j + 1) (hist ++ [(rdOf P A o, H)]) s.1 s.2) pairs
noncomputable abbrev cOpsC (P : Program) (G : List Nat) (call : CallF) (ops : Array Oper) (pairs : List (Nat × Nat)) : List Oper → Nat → List ((AH → Option Value) × AH) → List Value → AH → (List Value → AH → Option R) → Option R
  | [], _, _, A, H, k => k A H
  | o :: rest, j, hist, A, H, k => cStep P G call ops o A H fun A' H' => cks j hist (rdOf P A o) H H' (cOpsC P G call ops pairs rest (j + 1) (hist ++ [(rdOf P A o, H)]) A' H' k) pairs

theorem cOpsC_eq (P : Program) (G : List Nat) (call : CallF) (ops : Array Oper) (pairs : List (Nat × Nat)) : ∀ (l : List Oper) (j : Nat) (hist : List ((AH → Option Value) × AH)) (A : List Value) (H : AH) (k : List Value → AH → Option R), cOpsC P G call ops pairs l j hist A H k = (aOpsC P G call ops pairs l j hist A H).bind fun s => k s.1 s.2 := by
  intro l
  induction l with
  | nil => intro j hist A H k; rfl
  | cons o l ih =>
    intro j hist A H k
    simp only [cOpsC, aOpsC]
    rw [cStep_eq, Option.bind_assoc]
    congr 1
    funext s
    rw [cks_bind, ih]

/-- What the run with checks comes to. -/
theorem aOpsC_iff {P : Program} {G : List Nat} {call : CallF} {ops : Array Oper} {pairs : List (Nat × Nat)} {A0 : List Value} {H0 : AH} {r0 : List Value × AH} (h0 : aOps P G call ops ops.toList A0 H0 = some r0) (hp : ∀ p ∈ pairs, p.1 < ops.size ∧ p.2 < ops.size ∧ p.1 ≠ p.2) :
    ∀ (l : List Oper) (j : Nat) (hist : List ((AH → Option Value) × AH)), ops.toList.drop j = l → hist.length = j → (∀ i, i < j → ∃ o, ops[i]? = some o ∧ hist[i]? = some (rdOf P (stA P G call ops A0 H0 i).1 o, (stA P G call ops A0 H0 i).2)) →
      ∀ r, aOpsC P G call ops pairs l j hist (stA P G call ops A0 H0 j).1 (stA P G call ops A0 H0 j).2 = some r ↔ (∀ p ∈ pairs, j ≤ max p.1 p.2 → lookOK P (stA P G call ops A0 H0) ops p) ∧ r = r0 := by
  intro l
  induction l with
  | nil =>
    intro j hist hl hlen hh r
    have hj : ops.size ≤ j := by
      have := congrArg List.length hl
      simp at this; omega
    have hst : stA P G call ops A0 H0 j = r0 := by
      unfold stA
      rw [List.take_of_length_le (by simpa using hj), h0]; rfl
    simp only [aOpsC, hst]
    constructor
    · intro e
      exact ⟨fun p hpm hm => absurd (hp p hpm) (by omega), (Option.some.inj e).symm⟩
    · rintro ⟨_, rfl⟩; rfl
  | cons o l ih =>
    intro j hist hl hlen hh r
    have hj : ops.toList[j]? = some o := by
      have := congrArg (·[0]?) hl
      simpa using this
    have ho : ops[j]? = some o := by simpa using hj
    have hjs : j < ops.size := by
      have := (List.getElem?_eq_some_iff.1 hj).1
      simpa using this
    have hstep := stA_step h0 ho
    have hl' : ops.toList.drop (j + 1) = l := by
      have := congrArg (List.drop 1) hl
      simpa [List.drop_drop, Nat.add_comm] using this
    have hh' : ∀ i, i < j + 1 → ∃ o', ops[i]? = some o' ∧ (hist ++ [(rdOf P (stA P G call ops A0 H0 j).1 o, (stA P G call ops A0 H0 j).2)])[i]? = some (rdOf P (stA P G call ops A0 H0 i).1 o', (stA P G call ops A0 H0 i).2) := by
      intro i hi
      by_cases e : i = j
      · subst e
        exact ⟨o, ho, by rw [List.getElem?_append_right (by omega)]; simp [hlen]⟩
      · obtain ⟨o', h1, h2⟩ := hh i (by omega)
        exact ⟨o', h1, by rw [List.getElem?_append_left (by omega)]; exact h2⟩
    have hi := ih (j + 1) _ hl' (by simp [hlen]) hh' r
    simp only [aOpsC]
    rw [hstep]
    simp only [Option.bind_some]
    rw [cks_iff, hi]
    have key : ∀ p ∈ pairs, max p.1 p.2 = j → (ckP j hist (rdOf P (stA P G call ops A0 H0 j).1 o) (stA P G call ops A0 H0 j).2 (stA P G call ops A0 H0 (j + 1)).2 p ↔ lookOK P (stA P G call ops A0 H0) ops p) := by
      intro p hpm hm
      obtain ⟨h1, h2, h3⟩ := hp p hpm
      unfold ckP lookOK
      by_cases hlt : p.2 < p.1
      · have e1 : p.1 = j := by omega
        obtain ⟨o2, _, hg⟩ := hh p.2 (by omega)
        rw [if_pos hlt]
        constructor
        · intro ⟨a, _⟩ o' ho'
          rw [e1, ho] at ho'
          cases ho'
          obtain ⟨h, hg', e⟩ := a e1 (by omega)
          rw [hg] at hg'
          cases hg'
          rw [e1]
          exact e
        · intro a
          refine ⟨fun _ _ => ⟨_, hg, ?_⟩, fun e => absurd e (by omega)⟩
          have := a o (by rw [e1]; exact ho)
          rw [e1] at this
          exact this
      · have e2 : p.2 = j := by omega
        obtain ⟨o1, ho1, hg⟩ := hh p.1 (by omega)
        rw [if_neg hlt, e2]
        constructor
        · intro ⟨_, a⟩ o' ho'
          rw [ho1] at ho'
          cases ho'
          obtain ⟨h, hg', e⟩ := a rfl (by omega)
          rw [hg] at hg'
          cases hg'
          exact e
        · intro a
          refine ⟨fun e => absurd e (by omega), fun _ _ => ⟨_, hg, a o1 ho1⟩⟩
    have out : ∀ p ∈ pairs, max p.1 p.2 ≠ j → ckP j hist (rdOf P (stA P G call ops A0 H0 j).1 o) (stA P G call ops A0 H0 j).2 (stA P G call ops A0 H0 (j + 1)).2 p := by
      intro p hpm hm
      exact ⟨fun h1 h2 => absurd hm (by omega), fun h1 h2 => absurd hm (by omega)⟩
    constructor
    · rintro ⟨a, b, c⟩
      refine ⟨fun p hpm hm => ?_, c⟩
      by_cases e : max p.1 p.2 = j
      · exact (key p hpm e).1 (a p hpm)
      · exact b p hpm (by omega)
    · rintro ⟨a, c⟩
      refine ⟨fun p hpm => ?_, fun p hpm hm => a p hpm (by omega), c⟩
      by_cases e : max p.1 p.2 = j
      · exact (key p hpm e).2 (a p hpm (by omega))
      · exact out p hpm e

theorem aOpsC_aOps {P : Program} {G : List Nat} {call : CallF} {ops : Array Oper} {pairs : List (Nat × Nat)} : ∀ (l : List Oper) (j : Nat) (hist : List ((AH → Option Value) × AH)) (A : List Value) (H : AH) (r : List Value × AH), aOpsC P G call ops pairs l j hist A H = some r → aOps P G call ops l A H = some r := by
  intro l
  induction l with
  | nil => intro j hist A H r h; exact h
  | cons o l ih =>
    intro j hist A H r h
    simp only [aOpsC] at h
    obtain ⟨s, hs, h⟩ := Option.bind_eq_some_iff.1 h
    simp only [aOps]
    rw [hs]
    exact ih _ _ _ _ _ (cks_iff.1 h).2

theorem lookPairs_in {ops : Array Oper} : ∀ p ∈ lookPairs ops.toList, p.1 < ops.size ∧ p.2 < ops.size ∧ p.1 ≠ p.2 := by
  intro p hp
  unfold lookPairs at hp
  simp only [List.mem_flatMap, List.mem_filter, List.mem_map] at hp
  obtain ⟨x, ⟨hx, hx2⟩, y, ⟨hy, hy2⟩, rfl⟩ := hp
  have hx := List.mem_zipIdx hx
  have hy := List.mem_zipIdx hy
  simp only [beq_iff_eq] at hx2
  simp only [Bool.and_eq_true, beq_iff_eq] at hy2
  refine ⟨by have := hx.2.1; simpa using this, by have := hy.2.1; simpa using this, ?_⟩
  intro e
  simp only at e
  have e3 := hy2.1.1
  have ex := hx.2.2
  have ey := hy.2.2
  simp only [e, Nat.sub_zero] at ex ey
  have : x.1 = y.1 := by rw [ex, ey]
  rw [this, e3] at hx2
  cases hx2

theorem chk_inline {P : Program} {G : List Nat} {call : CallF} {ops : Array Oper} {pairs : List (Nat × Nat)} (hp : ∀ p ∈ pairs, p.1 < ops.size ∧ p.2 < ops.size ∧ p.1 ≠ p.2) (A : List Value) (H : AH) :
    chk (∀ q ∈ pairs, lookOK P (stA P G call ops A H) ops q) (aOps P G call ops ops.toList A H) = aOpsC P G call ops pairs ops.toList 0 [] A H := by
  cases hx : aOps P G call ops ops.toList A H with
  | none =>
    cases hy : aOpsC P G call ops pairs ops.toList 0 [] A H with
    | none => unfold chk; split <;> rfl
    | some r => have := aOpsC_aOps _ _ _ _ _ _ hy; rw [hx] at this; cases this
  | some r0 =>
    have hi := aOpsC_iff hx hp ops.toList 0 [] rfl rfl (fun i hi => absurd hi (by omega))
    simp only [stA_zero] at hi
    cases hy : aOpsC P G call ops pairs ops.toList 0 [] A H with
    | none =>
      cases hz : chk (∀ q ∈ pairs, lookOK P (stA P G call ops A H) ops q) (some r0) with
      | none => rfl
      | some r =>
        obtain ⟨h1, h2⟩ := chk_some hz
        have := (hi r0).2 ⟨fun p hpm _ => h1 p hpm, rfl⟩
        rw [hy] at this; cases this
    | some r =>
      obtain ⟨h1, h2⟩ := (hi r).1 hy
      rw [chk_true (fun p hpm => h1 p hpm (by omega)), h2]

noncomputable abbrev cRegion (P : Program) (G : List Nat) (call : CallF) (ops : Array Oper) (draw : Bool) (A : List Value) (H : AH) (k : List Value → AH → Option R) : Option R :=
  match draw with
  | false => cOps P G call ops ops.toList A H k
  | true => match regOK ops.toList with
    | false => none
    | true => match lookPairs ops.toList with
      | [] => cOps P G call ops ops.toList A H k
      | p :: ps => cOpsC P G call ops (p :: ps) ops.toList 0 [] A H k

theorem cRegion_eq (P : Program) (G : List Nat) (call : CallF) (ops : Array Oper) (draw : Bool) (A : List Value) (H : AH) (k : List Value → AH → Option R) : cRegion P G call ops draw A H k = (aRegion P G call ops draw A H).bind fun s => k s.1 s.2 := by
  unfold cRegion aRegion aDraw
  cases draw with
  | false => exact cOps_eq ..
  | true =>
    simp only
    cases regOK ops.toList with
    | false => rfl
    | true =>
      simp only
      cases hl : lookPairs ops.toList with
      | nil => exact cOps_eq ..
      | cons p ps =>
        simp only
        rw [chk_inline (fun q hq => lookPairs_in q (by rw [hl]; exact hq)), cOpsC_eq]

/-- How what a piece of code comes to goes on. -/
def disp (kn : List Value → AH → Option R) (kx : Nat → List Value → AH → Option R) (kr : List Value → AH → Option R) (r : AR) : Option R :=
  match r.1 with
  | .normal => kn r.2.1 r.2.2
  | .exit i => kx i r.2.1 r.2.2
  | .ret => kr r.2.1 r.2.2

noncomputable def cLoop (P : Program) (G : List Nat) (call : CallF) (x : Code) (A : List Value) (H : AH) (kx : Nat → List Value → AH → Option R) (kr : List Value → AH → Option R) : Option R :=
  (aLoop (aCode P G call x) A H).bind (disp (fun _ _ => none) kx kr)

noncomputable abbrev cCode (P : Program) (G : List Nat) (call : CallF) : Code → List Value → AH → (List Value → AH → Option R) → (Nat → List Value → AH → Option R) → (List Value → AH → Option R) → Option R
  | .skip, A, H, kn, _, _ => kn A H
  | .label _, A, H, kn, _, _ => kn A H
  | .region _ ops draw, A, H, kn, _, _ => cRegion P G call ops draw A H kn
  | .seq x y, A, H, kn, kx, kr => cCode P G call x A H (fun A H => cCode P G call y A H kn kx kr) kx kr
  | .cond c x y, A, H, kn, kx, kr => match aEv A c with
    | .bool true => cCode P G call x A H kn kx kr
    | .bool false => cCode P G call y A H kn kx kr
    | _ => none
  | .block id x, A, H, kn, kx, kr => cCode P G call x A H kn (fun i A H => if i = id then kn A H else kx i A H) kr
  | .loop x, A, H, _, kx, kr => cLoop P G call x A H kx kr
  | .exit id, A, H, _, kx, _ => kx id A H
  | .ret, A, H, _, _, kr => kr A H
  | _, _, _, _, _, _ => none

theorem aIter_not {f : List Value → AH → Option AR} : ∀ {n : Nat} {A : List Value} {H : AH} {r : AR}, aIter f n A H = some r → r.1 ≠ .normal := by
  intro n
  induction n with
  | zero => intro A H r h; cases h
  | succ n ih =>
    intro A H r h
    simp only [aIter] at h
    obtain ⟨s, hs, h⟩ := Option.bind_eq_some_iff.1 h
    split at h
    · exact ih h
    · rename_i e
      cases h
      exact fun he => e he

theorem aLoop_not {f : List Value → AH → Option AR} {A : List Value} {H : AH} {r : AR} (h : aLoop f A H = some r) : r.1 ≠ .normal := by
  obtain ⟨n, hn⟩ := aLoop_iff.1 h
  exact aIter_not hn

theorem cCode_eq (P : Program) (G : List Nat) (call : CallF) : ∀ (c : Code) (A : List Value) (H : AH) (kn : List Value → AH → Option R) (kx : Nat → List Value → AH → Option R) (kr : List Value → AH → Option R),
    cCode P G call c A H kn kx kr = (aCode P G call c A H).bind (disp kn kx kr) := by
  intro c
  induction c with
  | skip => intros; rfl
  | label => intros; rfl
  | exit => intros; rfl
  | ret => intros; rfl
  | region id ops draw =>
    intro A H kn kx kr
    simp only [cCode, aCode]
    rw [cRegion_eq, Option.bind_map]; rfl
  | seq x y ihx ihy =>
    intro A H kn kx kr
    simp only [cCode, aCode]
    rw [ihx, Option.bind_assoc]
    congr 1
    funext r
    obtain ⟨e, A1, H1⟩ := r
    cases e with
    | normal => simp only [disp]; exact ihy ..
    | exit i => rfl
    | ret => rfl
  | cond c x y ihx ihy =>
    intro A H kn kx kr
    simp only [cCode, aCode]
    generalize aEv A c = v
    cases v with
    | bool b => cases b <;> first | exact ihx .. | exact ihy ..
    | _ => rfl
  | block id x ih =>
    intro A H kn kx kr
    simp only [cCode, aCode]
    rw [ih, Option.bind_map]
    congr 1
    funext r
    obtain ⟨e, A1, H1⟩ := r
    cases e with
    | normal => rfl
    | exit i =>
      simp only [disp, Function.comp]
      split <;> rfl
    | ret => rfl
  | loop x ih =>
    intro A H kn kx kr
    simp only [cCode, aCode, cLoop]
    cases h : aLoop (aCode P G call x) A H with
    | none => rfl
    | some r =>
      simp only [Option.bind_some]
      have := aLoop_not h
      obtain ⟨e, A1, H1⟩ := r
      cases e with
      | normal => exact absurd rfl this
      | exit i => rfl
      | ret => rfl
  | rangeFunc => intros; rfl
  | scope => intros; rfl
  | goto => intros; rfl
  | refuse => intros; rfl

theorem cLoop_eq (P : Program) (G : List Nat) (call : CallF) (x : Code) (A : List Value) (H : AH) (kx : Nat → List Value → AH → Option R) (kr : List Value → AH → Option R) :
    cLoop P G call x A H kx kr = cCode P G call x A H (fun A H => cLoop P G call x A H kx kr) kx kr := by
  rw [cCode_eq]
  unfold cLoop
  rw [aLoop_eq, Option.bind_assoc]
  congr 1
  funext r
  obtain ⟨e, A1, H1⟩ := r
  cases e <;> rfl

/-- The results. -/
abbrev cMany (P : Program) (A : List Value) (H : AH) : List ResultVar → (List Value → Option R) → Option R
  | [], k => k []
  | .tmp t :: rs, k => cMany P A H rs fun vs => k (A[t]?.getD undef :: vs)
  | .cell a t :: rs, k => tb (aggOf P t) fun g => match g with
    | some n => (pLdN n (A[a]?.getD undef) H).bind fun v => cMany P A H rs fun vs => k (v :: vs)
    | none => (pLd1 (A[a]?.getD undef) H).bind fun v => cMany P A H rs fun vs => k (v :: vs)

theorem cMany_eq (P : Program) (A : List Value) (H : AH) : ∀ (rs : List ResultVar) (k : List Value → Option R), cMany P A H rs k = (aMany P A H rs).bind k := by
  intro rs
  induction rs with
  | nil => intro k; rfl
  | cons r rs ih =>
    intro k
    simp only [aMany, Option.bind_assoc, Option.bind_some]
    cases r with
    | tmp t =>
      simp only [cMany, aResult, Option.bind_some]
      rw [ih]
    | cell a t =>
      simp only [cMany, aResult, Option.bind_assoc, tb_eq]
      congr 1
      funext g
      cases g <;> (simp only; congr 1; funext v; rw [ih])
end

def tup : List Value → Value
  | [v] => v
  | vs => .tuple vs.toArray

abbrev cFin (P : Program) (rs : List ResultVar) (A : List Value) (H : AH) : Option (Value × AH) := cMany P A H rs fun vs => some (tup vs, H)

noncomputable def cBody (P : Program) (G : List Nat) (call : CallF) (n : Nat) (rs : List ResultVar) (c : Code) (args : List Value) (H : AH) : Option (Value × AH) :=
  cCode P G call c (args ++ List.replicate (n - args.length) undef) H (cFin P rs) (fun _ _ _ => none) (cFin P rs)

theorem cFin_eq (P : Program) (rs : List ResultVar) (A : List Value) (H : AH) : cFin P rs A H = (aResults P A H rs).map (·, H) := by
  unfold cFin aResults
  rw [cMany_eq, Option.map_map]
  cases aMany P A H rs with
  | none => rfl
  | some vs =>
    simp only [Option.bind_some, Option.map_some, Function.comp]
    congr 2

theorem cBody_eq (P : Program) (G : List Nat) (call : CallF) (n : Nat) (rs : List ResultVar) (c : Code) (args : List Value) (H : AH) : cBody P G call n rs c args H = aBody P G call n rs c args H := by
  unfold cBody aBody
  rw [cCode_eq]
  congr 1
  funext r
  obtain ⟨e, A1, H1⟩ := r
  cases e with
  | normal => exact cFin_eq ..
  | exit i => rfl
  | ret => exact cFin_eq ..

/-- The body of a function of the program. -/
def bodyOf (fn : Func) : Code := fn.body.getD .skip

theorem aF_of_body {P : Program} {G : List Nat} {f : Nat} {fn : Func} (hf : P.funcs[f]? = some fn) (hb : fn.body.isSome = true) (hn : (fn.name == "runtime.NumGoroutine") = false) (hd : dshape (bodyOf fn) = none) {args : List Value} {H : AH} {r : Value × AH}
    (h : cBody P G (aF P G) fn.ntmps fn.results.toList (bodyOf fn) args H = some r) : aF P G f args H = some r := by
  cases hc : fn.body with
  | none => rw [hc] at hb; cases hb
  | some c =>
    rw [cBody_eq] at h
    unfold bodyOf at h hd
    rw [hc] at h hd
    exact aF_of hf hc (by simpa using hn) hd h

/-- A part of a text: 0 and 1 are the sides of a sequence, 2 and 3 of a condition, 4 what stands in a block, 5 in a loop. -/
def Code.sub : Code → List Nat → Code
  | c, [] => c
  | .seq x _, 0 :: p => Code.sub x p
  | .seq _ y, 1 :: p => Code.sub y p
  | .cond _ x _, 2 :: p => Code.sub x p
  | .cond _ _ y, 3 :: p => Code.sub y p
  | .block _ x, 4 :: p => Code.sub x p
  | .loop x, 5 :: p => Code.sub x p
  | _, _ => .skip
end Go.Proofs.YtbjelopcelompaaGreatDoor.Gst
