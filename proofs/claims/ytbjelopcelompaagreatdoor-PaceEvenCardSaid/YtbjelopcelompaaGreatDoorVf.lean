/- One operation by the tree, and by the abstract heap. -/
import Derived.Test.YtbjelopcelompaaGreatDoorVe
namespace Go.Proofs.YtbjelopcelompaaGreatDoor.Gst
open Go Go.RowKit
set_option linter.unusedSimpArgs false
set_option linter.unusedVariables false

abbrev TF := Nat → List Value → EH → Option (Value × EH)

def tBuiltin (P : Program) (b : Builtin) (argTypes : Array TypeId) (args : List Value) (E : EH) : Option (Value × EH) :=
  match b, args with
  | .len, [x] => match (argTypes[0]?).bind fun t => P.underlying t with
    | some (.slice _) => match x with | .slice _ _ _ => (pLen x).map (·, E) | _ => none
    | some .string => match x with | .string _ => (pLen x).map (·, E) | _ => none
    | some (.map _ _) => (eLenM x E).map (·, E)
    | _ => none
  | .max, args => (pMax args).map (·, E)
  | .min, args => (pMin args).map (·, E)
  | .append, [s, x] => (argTypes[0]?).bind fun t => (elemOf' P t).bind fun el => (szOf P el).bind fun e => (bytesOf' P el).bind fun by' => (zeroOf P el).bind fun z =>
      if z.cells.size = e ∧ (argTypes[1]?).bind (fun u => elemOf' P u) = some el then eApp e by' s x E else none
  | .delete, [m, k] => (argTypes[0]?).bind fun t => (mapTypes P t).bind fun kt => (flatKey P kt.1).bind fun fl => (eDelete fl m k E).map fun E' => (.tuple #[], E')
  | _, _ => none

def tRd (P : Program) (ev : Operand → Value) (op : Op) (E : EH) : Option Value :=
  match op with
  | .load t a => (aggOf P t).bind fun g => match g with
    | some n => eLdN n (ev a) E
    | none => eLd1 (ev a) E
  | .lookup t m k ok => (mapTypes P t).bind fun kt => (flatKey P kt.1).bind fun fl => (zeroOf P kt.2).bind fun z => eLookup fl z (ev m) (ev k) ok E
  | .call c => match c.args.toList.map ev with
    | [x] => match (c.argTypes[0]?).bind fun t => P.underlying t with
      | some (.slice _) => match x with | .slice _ _ _ => pLen x | _ => none
      | some .string => match x with | .string _ => pLen x | _ => none
      | some (.map _ _) => eLenM x E
      | _ => none
    | _ => none
  | _ => none

def tOp (P : Program) (call : TF) (ev : Operand → Value) (o : Oper) (E : EH) : Option (Value × EH) :=
  match o.op with
  | .move x => some (ev x, E)
  | .assign x => some (ev x, E)
  | .pick c a b => (pPick (ev c) (ev a) (ev b)).map (·, E)
  | .alloc t => (zeroOf P t).bind fun z => eNew z.cells.toList E
  | .box _ x => eNew (ev x).cells.toList E
  | .build t parts => match P.underlying t with
    | some (.struct fs) => (zeroOf P t).bind fun z => (placesOf P fs.toList).bind fun ps => (pFill (ps[·]?) z.cells.toList (parts.toList.map fun p => (p.1, ev p.2))).map fun cs => (.agg cs.toArray, E)
    | some (.array _ el) => (zeroOf P t).bind fun z => (szOf P el).bind fun e => (pFill (fun i => some (i * e, e)) z.cells.toList (parts.toList.map fun p => (p.1, ev p.2))).map fun cs => (.agg cs.toArray, E)
    | _ => none
  | .buildSlice t len parts => (elemOf' P t).bind fun el => (szOf P el).bind fun e => (zeroOf P el).bind fun z =>
      if 0 < e ∧ z.cells.size = e ∧ len * e ≤ 2 ^ 24 then
        (pFill (fun i => some (i * e, e)) (List.replicate len z.cells.toList).flatten (parts.toList.map fun p => (p.1, ev p.2))).bind fun cs => eRowP len e cs E
      else none
  | .load t a => (aggOf P t).bind fun g => match g with
    | some n => (eLdN n (ev a) E).map (·, E)
    | none => (eLd1 (ev a) E).map (·, E)
  | .store t a x => (szOf P t).bind fun n => (eSt n (ev a) (ev x) E).map fun E' => (undef, E')
  | .nilCheck x => (pNil (ev x)).map (·, E)
  | .binOp op t x y _ => (pBin (clsOf P t) op (ev x) (ev y)).map (·, E)
  | .unOp op _ x => (pUn op (ev x)).map (·, E)
  | .convert src dst x => match P.underlying src with
    | some _ => (pConv (kindOf P dst) (ev x)).map (·, E)
    | none => none
  | .makeFunc fn first captured => some (.func fn (first.map ev) (captured.map ev), E)
  | .makeMap _ none => (E.push (.map [] 0)).map fun E' => (.map (some E.n), E')
  | .makeSlice t l c => (elemOf' P t).bind fun el => (szOf P el).bind fun e => (bytesOf' P el).bind fun by' => (zeroOf P el).bind fun z => eMake z.cells.toList e by' (ev l) (ev c) E
  | .slice t x lo hi none => (elemOf' P t).bind fun el => (szOf P el).bind fun e => (pSlice e (ev x) (lo.map ev) (hi.map ev)).map (·, E)
  | .slice t x none (some hi) (some mx) => (elemOf' P t).bind fun el => (szOf P el).bind fun _ => (pSlice0 (ev x) (ev hi) (ev mx)).map (·, E)
  | .fieldAddr s x f => (fieldOf P s f).bind fun f => (szOf P f.type).bind fun n => if n = 0 then none else (pFld f.offset (ev x)).map (·, E)
  | .field s x f => (fieldOf P s f).bind fun f => (aggOf P f.type).bind fun n => (pPart n f.offset (ev x)).map (·, E)
  | .indexAddr t x i => match P.underlying t with
    | some (.slice el) => (szOf P el).bind fun e => (pIdx e (ev x) (ev i)).map (·, E)
    | some (.array len el) => (szOf P el).bind fun e => (pIdxA len e (ev x) (ev i)).map (·, E)
    | _ => none
  | .index t x i => match P.underlying t with
    | some (.array len el) => (szOf P el).bind fun e => (aggOf P el).bind fun n => (pIndexV len n e (ev x) (ev i)).map (·, E)
    | some .string => (pIndexS (ev x) (ev i)).map (·, E)
    | _ => none
  | .lookup t m k ok => (mapTypes P t).bind fun kt => (flatKey P kt.1).bind fun fl => (zeroOf P kt.2).bind fun z => (eLookup fl z (ev m) (ev k) ok E).map (·, E)
  | .mapUpdate t m k x => (mapTypes P t).bind fun kt => (flatKey P kt.1).bind fun fl => (eUpdate fl (ev m) (ev k) (ev x) E).map fun E' => (undef, E')
  | .extract t i => (pExtract (ev t) i).map (·, E)
  | .call c => match c.callee with
    | .builtin b => tBuiltin P b c.argTypes (c.args.toList.map ev) E
    | .value f => (pCallee (ev f) (c.args.toList.map ev)).bind fun fa => call fa.1 fa.2 E
    | _ => none
  | _ => none

section
variable {P : Program} {g d : Nat} {F : List AObj} {E E' : EH} {H : AH}
theorem zeroOf_sh {t : TypeId} {z : Value} (h : zeroOf P t = some z) : (shV g d) z = z ∧ shL g d z.cells.toList = z.cells.toList := by
  obtain ⟨i, _, _, h1, h2⟩ := zeroOf_info h
  exact ⟨sh_const h2, sh_lits h1⟩
/-- A value that touches no memory. -/
theorem Did.val (h : HR g d F E H) {x y : Option Value} (e : y = x.map (shV g d)) : Did g d F (x.map (·, E)) (y.map (·, H)) := by
  intro v E' hx
  obtain ⟨z, hz, e1⟩ := Option.map_eq_some_iff.1 hx
  cases e1
  rw [e, hz]
  exact ⟨H, rfl, h⟩
theorem Did.bind {α : Type} {o : Option α} {f : α → Option (Value × EH)} {f' : α → Option (Value × AH)} (h : ∀ a, o = some a → Did g d F (f a) (f' a)) : Did g d F (o.bind f) (o.bind f') := by
  intro v E' hx
  obtain ⟨a, ha, hx⟩ := Option.bind_eq_some_iff.1 hx
  rw [ha]
  exact h a ha v E' hx
theorem Did.no {y : Option (Value × AH)} : Did g d F none y := fun v E' h => by cases h
theorem Did.ite {c : Prop} [Decidable c] {x : Option (Value × EH)} {y : Option (Value × AH)} (h : c → Did g d F x y) : Did g d F (if c then x else none) (if c then y else none) := by
  intro v E' hx
  split at hx
  · rename_i hc; rw [if_pos hc]; exact h hc v E' hx
  · cases hx
theorem Did.heap {x : Option EH} {y : Option AH} (v : Value) (hv : (shV g d) v = v) (h : DidH g d F x y) : Did g d F (x.map fun E' => (v, E')) (y.map fun H' => (v, H')) := by
  intro v' E' hx
  obtain ⟨E1, h1, e⟩ := Option.map_eq_some_iff.1 hx
  cases e
  obtain ⟨H', h2, h3⟩ := h E' h1
  exact ⟨H', by rw [h2, hv]; rfl, h3⟩
theorem ev_map {ev ev' : Operand → Value} {l : List Operand} (h : ∀ x ∈ l, ev' x = (shV g d) (ev x)) : l.map ev' = shL g d (l.map ev) := by
  rw [shL, List.map_map]
  exact List.map_congr_left h

theorem builtin_did (h : HR g d F E H) (b : Builtin) (ats : Array TypeId) (args : List Value) : Did g d F (tBuiltin P b ats args E) (aBuiltin P b ats (shL g d args) H) := by
  intro v E' hx
  unfold tBuiltin at hx
  split at hx
  · rename_i x
    simp only [shL, List.map_cons, List.map_nil, aBuiltin]
    split at hx
    · rename_i hu
      rw [hu]
      simp only
      split at hx
      · simp only [sh_slice]
        exact Did.val h (by rw [← sh_slice, sh_pLen]) v E' hx
      · cases hx
    · rename_i hu
      rw [hu]
      simp only
      split at hx
      · simp only [sh_string]
        exact Did.val h (by simp [pLen]) v E' hx
      · cases hx
    · rename_i hu
      rw [hu]
      exact Did.val h (h.lenM _) v E' hx
    · cases hx
  · exact Did.val h (sh_pMax _) v E' hx
  · exact Did.val h (sh_pMin _) v E' hx
  · simp only [shL, List.map_cons, List.map_nil, aBuiltin]
    exact Did.bind (fun t _ => Did.bind fun el _ => Did.bind fun e _ => Did.bind fun by' _ => Did.bind fun z _ => Did.ite fun _ => h.app _ _ _ _) v E' hx
  · simp only [shL, List.map_cons, List.map_nil, aBuiltin]
    exact Did.bind (fun t _ => Did.bind fun kt _ => Did.bind fun fl _ => Did.heap _ (by simp) (h.delete _ _ _)) v E' hx
  · cases hx

theorem rd_sh (h : HR g d F E H) {ev ev' : Operand → Value} {op : Op} (hev : ∀ x, x ∈ op.operands.toList → ev' x = (shV g d) (ev x)) : aRd P ev' op H = (tRd P ev op E).map (shV g d) := by
  cases op with
  | load t a =>
    simp only [aRd, tRd]
    rw [hev a (by simp [Op.operands])]
    cases aggOf P t with
    | none => rfl
    | some n => cases n with
      | none => exact h.ld1 _
      | some n => exact h.ldN _ _
  | lookup t m k ok =>
    simp only [aRd, tRd]
    rw [hev m (by simp [Op.operands]), hev k (by simp [Op.operands])]
    cases mapTypes P t with
    | none => rfl
    | some kt =>
      simp only [Option.bind_some]
      cases flatKey P kt.1 with
      | none => rfl
      | some fl =>
        simp only [Option.bind_some]
        cases hz : zeroOf P kt.2 with
        | none => rfl
        | some z => exact h.lookup fl (zeroOf_sh hz).1 _ _ _
  | call c =>
    have ha : c.args.toList.map ev' = shL g d (c.args.toList.map ev) := ev_map fun x hx => hev x (by simp only [Op.operands, Call.operands, Array.toList_append, List.mem_append]; exact .inr hx)
    simp only [aRd, tRd]
    rw [ha]
    generalize c.args.toList.map ev = l
    match l with
    | [] => rfl
    | [x] =>
      simp only [shL, List.map_cons, List.map_nil]
      generalize (c.argTypes[0]?).bind (fun t => P.underlying t) = u
      cases u with
      | none => rfl
      | some u => cases u <;> first | rfl | exact h.lenM _ | (cases x <;> simp [pLen])
    | x :: y :: l => rfl
  | _ => rfl

def CallDid (g d : Nat) (F : List AObj) (c : TF) (c' : CallF) : Prop := ∀ (E : EH) (H : AH) f args, HR g d F E H → Did g d F (c f args E) (c' f (shL g d args) H)

theorem op_did (h : HR g d F E H) {c : TF} {c' : CallF} (hc : CallDid g d F c c') {ev ev' : Operand → Value} {o : Oper} (hev : ∀ x, x ∈ o.op.operands.toList → ev' x = (shV g d) (ev x)) :
    Did g d F (tOp P c ev o E) (aOp P c' ev' o H) := by
  obtain ⟨dst, op, type, pos, after, guard⟩ := o
  simp only at hev
  have fill : ∀ (parts : Array (Nat × Operand)), (∀ x, x ∈ (parts.toList.map (·.2)) → ev' x = (shV g d) (ev x)) → (parts.toList.map fun p => (p.1, ev' p.2)) = (parts.toList.map fun p => (p.1, ev p.2)).map fun p => (p.1, (shV g d) p.2) := by
    intro parts hp
    rw [List.map_map]
    refine List.map_congr_left fun p hpm => ?_
    simp only [Function.comp]
    rw [hp p.2 (List.mem_map_of_mem hpm)]
  have arr : ∀ (l : Array Operand), (∀ x ∈ l.toList, ev' x = (shV g d) (ev x)) → l.map ev' = (l.map ev).map (shV g d) := by
    intro l hl
    apply Array.toList_inj.1
    rw [Array.toList_map, Array.toList_map, Array.toList_map]
    exact ev_map hl
  cases op
  case move x => intro v E' hx; simp only [tOp] at hx; cases hx; exact ⟨H, by simp only [aOp]; rw [hev x (by simp [Op.operands])], h⟩
  case assign x => intro v E' hx; simp only [tOp] at hx; cases hx; exact ⟨H, by simp only [aOp]; rw [hev x (by simp [Op.operands])], h⟩
  case pick k a b =>
    simp only [tOp, aOp]
    rw [hev k (by simp [Op.operands]), hev a (by simp [Op.operands]), hev b (by simp [Op.operands])]
    exact Did.val h (sh_pPick _ _ _)
  case alloc t =>
    intro v E' hx
    simp only [tOp] at hx
    simp only [aOp]
    obtain ⟨z, hz, hx⟩ := Option.bind_eq_some_iff.1 hx
    rw [hz]
    have := h.new' _ v E' hx
    rw [(zeroOf_sh hz).2] at this
    exact this
  case box t x =>
    simp only [tOp, aOp]
    rw [hev x (by simp [Op.operands]), sh_cellsL]
    exact h.new' _
  case build t parts =>
    have hp := fill parts fun x hx => hev x (by simpa [Op.operands] using hx)
    intro v E' hx
    simp only [tOp] at hx
    simp only [aOp]
    rw [hp]
    split at hx
    · rename_i fs hu
      rw [hu]
      simp only
      obtain ⟨z, hz, hx⟩ := Option.bind_eq_some_iff.1 hx
      obtain ⟨ps, hps, hx⟩ := Option.bind_eq_some_iff.1 hx
      obtain ⟨cs, hcs, e⟩ := Option.map_eq_some_iff.1 hx
      cases e
      have hf := sh_pFill (g := g) (d := d) (ps[·]?) (parts.toList.map fun p => (p.1, ev p.2)) z.cells.toList
      rw [(zeroOf_sh hz).2, hcs] at hf
      rw [hz, hps]
      simp only [Option.bind_some]
      rw [hf]
      exact ⟨H, by simp, h⟩
    · rename_i el hu
      rw [hu]
      simp only
      obtain ⟨z, hz, hx⟩ := Option.bind_eq_some_iff.1 hx
      obtain ⟨e, he, hx⟩ := Option.bind_eq_some_iff.1 hx
      obtain ⟨cs, hcs, e⟩ := Option.map_eq_some_iff.1 hx
      cases e
      have hf := sh_pFill (g := g) (d := d) (fun i => some (i * e, e)) (parts.toList.map fun p => (p.1, ev p.2)) z.cells.toList
      rw [(zeroOf_sh hz).2, hcs] at hf
      rw [hz, he]
      simp only [Option.bind_some]
      rw [hf]
      exact ⟨H, by simp, h⟩
    · cases hx
  case buildSlice t len parts =>
    have hp := fill parts fun x hx => hev x (by simpa [Op.operands] using hx)
    simp only [tOp, aOp]
    rw [hp]
    refine Did.bind fun el _ => Did.bind fun e _ => Did.bind fun z hz => Did.ite fun _ => ?_
    intro v E' hx
    obtain ⟨cs, hcs, hx⟩ := Option.bind_eq_some_iff.1 hx
    have hf := sh_pFill (g := g) (d := d) (fun i => some (i * e, e)) (parts.toList.map fun p => (p.1, ev p.2)) (List.replicate len z.cells.toList).flatten
    rw [hcs, show shL g d (List.replicate len z.cells.toList).flatten = (List.replicate len z.cells.toList).flatten from by
      rw [shL, List.map_flatten, List.map_replicate, show List.map (shV g d) z.cells.toList = z.cells.toList from (zeroOf_sh hz).2]] at hf
    rw [hf]
    exact h.rowP _ _ _ v E' hx
  case load t a =>
    simp only [tOp, aOp]
    rw [hev a (by simp [Op.operands])]
    refine Did.bind fun n _ => ?_
    cases n with
    | none => exact Did.val h (h.ld1 _)
    | some n => exact Did.val h (h.ldN _ _)
  case store t a x =>
    simp only [tOp, aOp]
    rw [hev a (by simp [Op.operands]), hev x (by simp [Op.operands])]
    exact Did.bind fun n _ => Did.heap _ sh_undef (h.st _ _ _)
  case nilCheck x =>
    simp only [tOp, aOp]
    rw [hev x (by simp [Op.operands])]
    exact Did.val h (sh_pNil _)
  case binOp op t x y z =>
    simp only [tOp, aOp]
    rw [hev x (by simp [Op.operands]), hev y (by simp [Op.operands])]
    exact Did.val h (sh_pBin _ _ _ _)
  case unOp op t x =>
    simp only [tOp, aOp]
    rw [hev x (by simp [Op.operands])]
    exact Did.val h (sh_pUn _ _)
  case convert src dst x =>
    simp only [tOp, aOp]
    rw [hev x (by simp [Op.operands])]
    split
    · rename_i hu; rw [hu]; exact Did.val h (sh_pConv _ _)
    · exact Did.no
  case makeFunc fn first captured =>
    simp only [tOp, aOp]
    rw [arr first fun x hx => hev x (by simp only [Op.operands, Array.toList_append, List.mem_append]; exact .inl hx), arr captured fun x hx => hev x (by simp only [Op.operands, Array.toList_append, List.mem_append]; exact .inr hx)]
    intro v E' hx; cases hx; exact ⟨H, by simp, h⟩
  case makeMap t r =>
    cases r with
    | none =>
      intro v E' hx
      simp only [tOp] at hx
      simp only [aOp]
      obtain ⟨E1, h1, e⟩ := Option.map_eq_some_iff.1 hx
      cases e
      exact ⟨H.push (shO g d (.map [] 0)), by simp [h.new, shO], h.push h1⟩
    | some r => exact Did.no
  case makeSlice t l k =>
    simp only [tOp, aOp]
    rw [hev l (by simp [Op.operands]), hev k (by simp [Op.operands])]
    exact Did.bind fun el _ => Did.bind fun e _ => Did.bind fun by' _ => Did.bind fun z hz => h.make (zeroOf_sh hz).2 _ _ _ _
  case slice t x lo hi mx =>
    have hx := hev x (by simp [Op.operands])
    have ho : ∀ (q : Option Operand), (∀ y ∈ q.toArray.toList, ev' y = (shV g d) (ev y)) → q.map ev' = (q.map ev).map (shV g d) := by
      intro q hq
      cases q with
      | none => rfl
      | some y => simp [hq y (by simp)]
    have hlo : lo.map ev' = (lo.map ev).map (shV g d) := ho lo fun y hy => hev y (by simp only [Op.operands, Array.toList_append, List.mem_append]; exact .inl (.inl (.inr hy)))
    have hhi : hi.map ev' = (hi.map ev).map (shV g d) := ho hi fun y hy => hev y (by simp only [Op.operands, Array.toList_append, List.mem_append]; exact .inl (.inr hy))
    have hmx : mx.map ev' = (mx.map ev).map (shV g d) := ho mx fun y hy => hev y (by simp only [Op.operands, Array.toList_append, List.mem_append]; exact .inr hy)
    cases mx with
    | none =>
      simp only [tOp, aOp]
      rw [hx, hlo, hhi]
      exact Did.bind fun el _ => Did.bind fun e _ => Did.val h (sh_pSlice _ _ _ _)
    | some mx =>
      cases lo with
      | some lo => cases hi <;> exact Did.no
      | none =>
        cases hi with
        | none => exact Did.no
        | some hi =>
          simp only [Option.map_some, Option.some.injEq] at hhi hmx
          simp only [tOp, aOp]
          rw [hx, hhi, hmx]
          refine Did.bind fun el _ => Did.bind fun e _ => ?_
          intro v E' hv
          obtain ⟨z, hz, e⟩ := Option.map_eq_some_iff.1 hv
          cases e
          rw [sh_pSlice0 hz]
          exact ⟨H, rfl, h⟩
  case fieldAddr st x f =>
    simp only [tOp, aOp]
    rw [hev x (by simp [Op.operands])]
    refine Did.bind fun f _ => Did.bind fun n _ => ?_
    split
    · exact Did.no
    · exact Did.val h (sh_pFld _ _)
  case field st x f =>
    simp only [tOp, aOp]
    rw [hev x (by simp [Op.operands])]
    exact Did.bind fun f _ => Did.bind fun n _ => Did.val h (sh_pPart _ _ _)
  case indexAddr t x i =>
    simp only [tOp, aOp]
    rw [hev x (by simp [Op.operands]), hev i (by simp [Op.operands])]
    split
    · rename_i hu; rw [hu]; exact Did.bind fun e _ => Did.val h (sh_pIdx _ _ _)
    · rename_i hu; rw [hu]; exact Did.bind fun e _ => Did.val h (sh_pIdxA _ _ _ _)
    · exact Did.no
  case index t x i =>
    simp only [tOp, aOp]
    rw [hev x (by simp [Op.operands]), hev i (by simp [Op.operands])]
    split
    · rename_i hu; rw [hu]; exact Did.bind fun e _ => Did.bind fun n _ => Did.val h (sh_pIndexV _ _ _ _ _)
    · rename_i hu; rw [hu]; exact Did.val h (sh_pIndexS _ _)
    · exact Did.no
  case lookup t m k ok =>
    simp only [tOp, aOp]
    rw [hev m (by simp [Op.operands]), hev k (by simp [Op.operands])]
    exact Did.bind fun kt _ => Did.bind fun fl _ => Did.bind fun z hz => Did.val h (h.lookup fl (zeroOf_sh hz).1 _ _ _)
  case mapUpdate t m k x =>
    simp only [tOp, aOp]
    rw [hev m (by simp [Op.operands]), hev k (by simp [Op.operands]), hev x (by simp [Op.operands])]
    exact Did.bind fun kt _ => Did.bind fun fl _ => Did.heap _ sh_undef (h.update _ _ _ _)
  case extract t i =>
    simp only [tOp, aOp]
    rw [hev t (by simp [Op.operands])]
    exact Did.val h (sh_pExtract _ _)
  case call k =>
    obtain ⟨callee, args, ats⟩ := k
    have ha : args.toList.map ev' = shL g d (args.toList.map ev) := ev_map fun x hx => hev x (by simp only [Op.operands, Call.operands, Array.toList_append, List.mem_append]; exact .inr hx)
    cases callee with
    | builtin b =>
      simp only [tOp, aOp]
      rw [ha]
      exact builtin_did h _ _ _
    | value f =>
      simp only [tOp, aOp]
      rw [ha, hev f (by simp [Op.operands, Call.operands])]
      intro v E' hx
      obtain ⟨q, hq, hx⟩ := Option.bind_eq_some_iff.1 hx
      rw [sh_pCallee, hq]
      exact hc E H _ _ h v E' hx
    | invoke r m => exact Did.no
  all_goals exact Did.no
end
end Go.Proofs.YtbjelopcelompaaGreatDoor.Gst
