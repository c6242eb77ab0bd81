/- Several texts in one. -/
import Derived.Test.YtflbeghglllknaaGreatDoorPe
namespace Go.Proofs.YtflbeghglllknaaGreatDoor.Gst
open Go Go.RowKit
set_option linter.unusedSimpArgs false
set_option linter.unusedVariables false
set_option maxHeartbeats 4000000
set_option maxRecDepth 100000
set_option synthInstance.maxSize 2000
set_option synthInstance.maxHeartbeats 400000
abbrev TF := Nat → List Value → EH → Option (Value × EH)
def G8 (P : Program) (b : Builtin) (argTypes : Array TypeId) (args : List Value) (E : EH) : Option (Value × EH) :=
 match b, args with
 | .len, [x] => match (argTypes[0]?).bind fun t => P.underlying t with
  | some (.slice _) => match x with | .slice _ _ _ => (rA x).map (·, E) | _ => none
  | some .string => match x with | .string _ => (rA x).map (·, E) | _ => none
  | some (.map _ _) => (Is x E).map (·, E)
  | _ => none
 | .max, args => (iQ args).map (·, E)
 | .min, args => (j3 args).map (·, E)
 | .append, [s, x] => (argTypes[0]?).bind fun t => (cM P t).bind fun el => (cQ P el).bind fun e => (gi P el).bind fun by' => (bZ P el).bind fun z =>
  if z.cells.size = e ∧ (argTypes[1]?).bind (fun u => cM P u) = some el then auI e by' s x E else none
 | .delete, [m, k] => (argTypes[0]?).bind fun t => (cN P t).bind fun kt => (cV P kt.1).bind fun fl => (Ka fl m k E).map fun E' => (.tuple #[], E')
 | _, _ => none
def tRd (P : Program) (ev : Operand → Value) (op : Op) (E : EH) : Option Value :=
 match op with
 | .load t a => (f7 P t).bind fun g => match g with
  | some n => agD n (ev a) E
  | none => agC (ev a) E
 | .lookup t m k ok => (cN P t).bind fun kt => (cV P kt.1).bind fun fl => (bZ P kt.2).bind fun z => CX fl z (ev m) (ev k) ok E
 | .call c => match c.args.toList.map ev with
  | [x] => match (c.argTypes[0]?).bind fun t => P.underlying t with
   | some (.slice _) => match x with | .slice _ _ _ => rA x | _ => none
   | some .string => match x with | .string _ => rA x | _ => none
   | some (.map _ _) => Is x E
   | _ => none
  | _ => none
 | _ => none
def za (P : Program) (call : TF) (ev : Operand → Value) (o : Oper) (E : EH) : Option (Value × EH) :=
 match o.op with
 | .move x => some (ev x, E)
 | .assign x => some (ev x, E)
 | .pick c a b => (aL (ev c) (ev a) (ev b)).map (·, E)
 | .alloc t => (bZ P t).bind fun z => auK z.cells.toList E
 | .box _ x => auK (ev x).cells.toList E
 | .build t parts => match P.underlying t with
  | some (.struct fs) => (bZ P t).bind fun z => (jS P fs.toList).bind fun ps => (dq (ps[·]?) z.cells.toList (parts.toList.map fun p => (p.1, ev p.2))).map fun cs => (.agg cs.toArray, E)
  | some (.array _ el) => (bZ P t).bind fun z => (cQ P el).bind fun e => (dq (fun i => some (i * e, e)) z.cells.toList (parts.toList.map fun p => (p.1, ev p.2))).map fun cs => (.agg cs.toArray, E)
  | _ => none
 | .buildSlice t len parts => (cM P t).bind fun el => (cQ P el).bind fun e => (bZ P el).bind fun z =>
  if 0 < e ∧ z.cells.size = e ∧ len * e ≤ 2 ^ 24 then
   (dq (fun i => some (i * e, e)) (List.replicate len z.cells.toList).flatten (parts.toList.map fun p => (p.1, ev p.2))).bind fun cs => It len e cs E
  else none
 | .load t a => (f7 P t).bind fun g => match g with
  | some n => (agD n (ev a) E).map (·, E)
  | none => (agC (ev a) E).map (·, E)
 | .store t a x => (cQ P t).bind fun n => (eSt n (ev a) (ev x) E).map fun E' => (undef, E')
 | .nilCheck x => (vM (ev x)).map (·, E)
 | .binOp op t x y _ => (ai (AW P t) op (ev x) (ev y)).map (·, E)
 | .unOp op _ x => (ot op (ev x)).map (·, E)
 | .convert src dst x => match P.underlying src with
  | some _ => (cf (sy P dst) (ev x)).map (·, E)
  | none => none
 | .makeFunc fn first captured => some (.func fn (first.map ev) (captured.map ev), E)
 | .makeMap _ none => (E.push (.map [] 0)).map fun E' => (.map (some E.n), E')
 | .makeSlice t l c => (cM P t).bind fun el => (cQ P el).bind fun e => (gi P el).bind fun by' => (bZ P el).bind fun z => agE z.cells.toList e by' (ev l) (ev c) E
 | .slice t x lo hi none => (cM P t).bind fun el => (cQ P el).bind fun e => (fV e (ev x) (lo.map ev) (hi.map ev)).map (·, E)
 | .slice t x none (some hi) (some mx) => (cM P t).bind fun el => (cQ P el).bind fun _ => (jR (ev x) (ev hi) (ev mx)).map (·, E)
 | .fieldAddr s x f => (kJ P s f).bind fun f => (cQ P f.type).bind fun n => if n = 0 then none else (HS f.offset (ev x)).map (·, E)
 | .field s x f => (kJ P s f).bind fun f => (f7 P f.type).bind fun n => (lU n f.offset (ev x)).map (·, E)
 | .indexAddr t x i => match P.underlying t with
  | some (.slice el) => (cQ P el).bind fun e => (pK e (ev x) (ev i)).map (·, E)
  | some (.array len el) => (cQ P el).bind fun e => (jp len e (ev x) (ev i)).map (·, E)
  | _ => none
 | .index t x i => match P.underlying t with
  | some (.array len el) => (cQ P el).bind fun e => (f7 P el).bind fun n => (jQ len n e (ev x) (ev i)).map (·, E)
  | some .string => (jP (ev x) (ev i)).map (·, E)
  | _ => none
 | .lookup t m k ok => (cN P t).bind fun kt => (cV P kt.1).bind fun fl => (bZ P kt.2).bind fun z => (CX fl z (ev m) (ev k) ok E).map (·, E)
 | .mapUpdate t m k x => (cN P t).bind fun kt => (cV P kt.1).bind fun fl => (Kg fl (ev m) (ev k) (ev x) E).map fun E' => (undef, E')
 | .extract t i => (ag (ev t) i).map (·, E)
 | .call c => match c.callee with
  | .builtin b => G8 P b c.argTypes (c.args.toList.map ev) E
  | .value f => (ce (ev f) (c.args.toList.map ev)).bind fun fa => call fa.1 fa.2 E
  | _ => none
 | _ => none
section
variable {P : Program} {g d : Nat} {F : List AObj} {E E' : EH} {H : AH}
theorem kI {t : TypeId} {z : Value} (h : bZ P t = some z) : (bW g d) z = z ∧ iv g d z.cells.toList = z.cells.toList := by
 obtain ⟨i, _, _, h1, h2⟩ := di h;exact ⟨PZ h2, y6 h1⟩
theorem e6.val (h : HR g d F E H) {x y : Option Value} (e : y = x.map (bW g d)) : e6 g d F (x.map (·, E)) (y.map (·, H)) := by
 intro v E' hx;obtain ⟨z, hz, e1⟩ := bh.1 hx;cases e1;rw [e, hz];exact ⟨H, rfl, h⟩
theorem e6.bind {α : Type} {o : Option α} {f : α → Option (Value × EH)} {f' : α → Option (Value × AH)} (h : ∀ a, o = some a → e6 g d F (f a) (f' a)) : e6 g d F (o.bind f) (o.bind f') := by
 intro v E' hx;obtain ⟨a, ha, hx⟩ := aI.1 hx;rw [ha];exact h a ha v E' hx
theorem e6.no {y : Option (Value × AH)} : e6 g d F none y := fun v E' h => by cases h
theorem e6.ite {c : Prop} [Decidable c] {x : Option (Value × EH)} {y : Option (Value × AH)} (h : c → e6 g d F x y) : e6 g d F (if c then x else none) (if c then y else none) := by
 intro v E' hx
 split at hx
 ·rename_i hc; rw [if_pos hc]; exact h hc v E' hx
 ·cases hx
theorem e6.heap {x : Option EH} {y : Option AH} (v : Value) (hv : (bW g d) v = v) (h : apM g d F x y) : e6 g d F (x.map fun E' => (v, E')) (y.map fun H' => (v, H')) := by
 intro v' E' hx;obtain ⟨E1, h1, e⟩ := bh.1 hx;cases e;obtain ⟨H', h2, h3⟩ := h E' h1;exact ⟨H', by rw [h2, hv]; rfl, h3⟩
theorem Ri {ev ev' : Operand → Value} {l : List Operand} (h : ∀ x ∈ l, ev' x = (bW g d) (ev x)) : l.map ev' = iv g d (l.map ev) := by
 rw [iv, List.map_map];exact List.map_congr_left h
theorem ND (h : HR g d F E H) (b : Builtin) (ats : Array TypeId) (args : List Value) : e6 g d F (G8 P b ats args E) (cU P b ats (iv g d args) H) := by
 intro v E' hx;unfold G8 at hx
 split at hx
 ·rename_i x
  simp only [iv, List.map_cons, List.map_nil, cU]
  split at hx
  ·rename_i hu
   rw [hu];simp only
   split at hx
   ·simp only [gU]
    exact e6.val h (by rw [← gU, ar3]) v E' hx
   ·cases hx
  ·rename_i hu
   rw [hu];simp only
   split at hx
   ·simp only [JG]
    exact e6.val h (by simp [rA]) v E' hx
   ·cases hx
  ·rename_i hu
   rw [hu];exact e6.val h (h.lenM _) v E' hx
  ·cases hx
 ·exact e6.val h (ar4 _) v E' hx
 ·exact e6.val h (ar5 _) v E' hx
 ·simp only [iv, List.map_cons, List.map_nil, cU]
  exact e6.bind (fun t _ => e6.bind fun el _ => e6.bind fun e _ => e6.bind fun by' _ => e6.bind fun z _ => e6.ite fun _ => h.app _ _ _ _) v E' hx
 ·simp only [iv, List.map_cons, List.map_nil, cU]
  exact e6.bind (fun t _ => e6.bind fun kt _ => e6.bind fun fl _ => e6.heap _ (by simp) (h.delete _ _ _)) v E' hx
 ·cases hx
theorem atQ (h : HR g d F E H) {ev ev' : Operand → Value} {op : Op} (hev : ∀ x, x ∈ op.operands.toList → ev' x = (bW g d) (ev x)) : DO P ev' op H = (tRd P ev op E).map (bW g d) := by
 cases op with
 | load t a =>
  simp only [DO, tRd];rw [hev a (by simp [Op.operands])]
  cases f7 P t with
  | none => rfl
  | some n => cases n with
   | none => exact h.ld1 _
   | some n => exact h.ldN _ _
 | lookup t m k ok =>
  simp only [DO, tRd];rw [hev m (by simp [Op.operands]), hev k (by simp [Op.operands])]
  cases cN P t with
  | none => rfl
  | some kt =>
   simp only [bO]
   cases cV P kt.1 with
   | none => rfl
   | some fl =>
    simp only [bO]
    cases hz : bZ P kt.2 with
    | none => rfl
    | some z => exact h.lookup fl (kI hz).1 _ _ _
 | call c =>
  have ha : c.args.toList.map ev' = iv g d (c.args.toList.map ev) := Ri fun x hx => hev x (by simp only [Op.operands, Call.operands, Array.toList_append, List.mem_append]; exact .inr hx);simp only [DO, tRd];rw [ha]
  generalize c.args.toList.map ev = l
  match l with
  | [] => rfl
  | [x] =>
   simp only [iv, List.map_cons, List.map_nil]
   generalize (c.argTypes[0]?).bind (fun t => P.underlying t) = u
   cases u with
   | none => rfl
   | some u => cases u <;> first | rfl | exact h.lenM _ | (cases x <;> simp [rA])
  | x :: y :: l => rfl
 | _ => rfl
def tu (g d : Nat) (F : List AObj) (c : TF) (c' : bM) : Prop := ∀ (E : EH) (H : AH) f args, HR g d F E H → e6 g d F (c f args E) (c' f (iv g d args) H)
theorem avA (h : HR g d F E H) {c : TF} {c' : bM} (hc : tu g d F c c') {ev ev' : Operand → Value} {o : Oper} (hev : ∀ x, x ∈ o.op.operands.toList → ev' x = (bW g d) (ev x)) :
 e6 g d F (za P c ev o E) (fp P c' ev' o H) := by
 obtain ⟨dst, op, type, pos, after, guard⟩ := o;simp only at hev
 have fill : ∀ (parts : Array (Nat × Operand)), (∀ x, x ∈ (parts.toList.map (·.2)) → ev' x = (bW g d) (ev x)) → (parts.toList.map fun p => (p.1, ev' p.2)) = (parts.toList.map fun p => (p.1, ev p.2)).map fun p => (p.1, (bW g d) p.2) := by
  intro parts hp;rw [List.map_map];refine List.map_congr_left fun p hpm => ?_;simp only [Function.comp];rw [hp p.2 (List.mem_map_of_mem hpm)]
 have arr : ∀ (l : Array Operand), (∀ x ∈ l.toList, ev' x = (bW g d) (ev x)) → l.map ev' = (l.map ev).map (bW g d) := by
  intro l hl;apply Array.toList_inj.1;rw [Array.toList_map, Array.toList_map, Array.toList_map];exact Ri hl
 cases op
 case move x => intro v E' hx; simp only [za] at hx; cases hx; exact ⟨H, by simp only [fp]; rw [hev x (by simp [Op.operands])], h⟩
 case assign x => intro v E' hx; simp only [za] at hx; cases hx; exact ⟨H, by simp only [fp]; rw [hev x (by simp [Op.operands])], h⟩
 case pick k a b =>
  simp only [za, fp];rw [hev k (by simp [Op.operands]), hev a (by simp [Op.operands]), hev b (by simp [Op.operands])];exact e6.val h (an5 _ _ _)
 case alloc t =>
  intro v E' hx;simp only [za] at hx;simp only [fp];obtain ⟨z, hz, hx⟩ := aI.1 hx;rw [hz];have := h.new' _ v E' hx;rw [(kI hz).2] at this;exact this
 case box t x =>
  simp only [za, fp];rw [hev x (by simp [Op.operands]), ad3];exact h.new' _
 case build t parts =>
  have hp := fill parts fun x hx => hev x (by simpa [Op.operands] using hx);intro v E' hx;simp only [za] at hx;simp only [fp];rw [hp]
  split at hx
  ·rename_i fs hu
   rw [hu];simp only;obtain ⟨z, hz, hx⟩ := aI.1 hx;obtain ⟨ps, hps, hx⟩ := aI.1 hx;obtain ⟨cs, hcs, e⟩ := bh.1 hx;cases e;have hf := G2 (g := g) (d := d) (ps[·]?) (parts.toList.map fun p => (p.1, ev p.2)) z.cells.toList;rw [(kI hz).2, hcs] at hf;rw [hz, hps];simp only [bO];rw [hf];exact ⟨H, by simp, h⟩
  ·rename_i el hu
   rw [hu];simp only;obtain ⟨z, hz, hx⟩ := aI.1 hx;obtain ⟨e, he, hx⟩ := aI.1 hx;obtain ⟨cs, hcs, e⟩ := bh.1 hx;cases e;have hf := G2 (g := g) (d := d) (fun i => some (i * e, e)) (parts.toList.map fun p => (p.1, ev p.2)) z.cells.toList;rw [(kI hz).2, hcs] at hf;rw [hz, he];simp only [bO];rw [hf];exact ⟨H, by simp, h⟩
  ·cases hx
 case buildSlice t len parts =>
  have hp := fill parts fun x hx => hev x (by simpa [Op.operands] using hx);simp only [za, fp];rw [hp];refine e6.bind fun el _ => e6.bind fun e _ => e6.bind fun z hz => e6.ite fun _ => ?_;intro v E' hx;obtain ⟨cs, hcs, hx⟩ := aI.1 hx;have hf := G2 (g := g) (d := d) (fun i => some (i * e, e)) (parts.toList.map fun p => (p.1, ev p.2)) (List.replicate len z.cells.toList).flatten
  rw [hcs, show iv g d (List.replicate len z.cells.toList).flatten = (List.replicate len z.cells.toList).flatten from by
   rw [iv, List.map_flatten, List.map_replicate, show List.map (bW g d) z.cells.toList = z.cells.toList from (kI hz).2]] at hf
  rw [hf];exact h.rowP _ _ _ v E' hx
 case load t a =>
  simp only [za, fp];rw [hev a (by simp [Op.operands])];refine e6.bind fun n _ => ?_
  cases n with
  | none => exact e6.val h (h.ld1 _)
  | some n => exact e6.val h (h.ldN _ _)
 case store t a x =>
  simp only [za, fp];rw [hev a (by simp [Op.operands]), hev x (by simp [Op.operands])];exact e6.bind fun n _ => e6.heap _ tg (h.st _ _ _)
 case nilCheck x =>
  simp only [za, fp];rw [hev x (by simp [Op.operands])];exact e6.val h (ar6 _)
 case binOp op t x y z =>
  simp only [za, fp];rw [hev x (by simp [Op.operands]), hev y (by simp [Op.operands])];exact e6.val h (ar0 _ _ _ _)
 case unOp op t x =>
  simp only [za, fp];rw [hev x (by simp [Op.operands])];exact e6.val h (avZ _ _)
 case convert src dst x =>
  simp only [za, fp];rw [hev x (by simp [Op.operands])]
  split
  ·rename_i hu; rw [hu]; exact e6.val h (an1 _ _)
  ·exact e6.no
 case makeFunc fn first captured =>
  simp only [za, fp];rw [arr first fun x hx => hev x (by simp only [Op.operands, Array.toList_append, List.mem_append]; exact .inl hx), arr captured fun x hx => hev x (by simp only [Op.operands, Array.toList_append, List.mem_append]; exact .inr hx)];intro v E' hx; cases hx; exact ⟨H, by simp, h⟩
 case makeMap t r =>
  cases r with
  | none =>
   intro v E' hx;simp only [za] at hx;simp only [fp];obtain ⟨E1, h1, e⟩ := bh.1 hx;cases e;exact ⟨H.push (QB g d (.map [] 0)), by simp [h.new, QB], h.push h1⟩
  | some r => exact e6.no
 case makeSlice t l k =>
  simp only [za, fp];rw [hev l (by simp [Op.operands]), hev k (by simp [Op.operands])]
  exact e6.bind fun el _ => e6.bind fun e _ => e6.bind fun by' _ => e6.bind fun z hz => h.make (kI hz).2 _ _ _ _
 case slice t x lo hi mx =>
  have hx := hev x (by simp [Op.operands])
  have ho : ∀ (q : Option Operand), (∀ y ∈ q.toArray.toList, ev' y = (bW g d) (ev y)) → q.map ev' = (q.map ev).map (bW g d) := by
   intro q hq
   cases q with
   | none => rfl
   | some y => simp [hq y (by simp)]
  have hlo : lo.map ev' = (lo.map ev).map (bW g d) := ho lo fun y hy => hev y (by simp only [Op.operands, Array.toList_append, List.mem_append]; exact .inl (.inl (.inr hy)));have hhi : hi.map ev' = (hi.map ev).map (bW g d) := ho hi fun y hy => hev y (by simp only [Op.operands, Array.toList_append, List.mem_append]; exact .inl (.inr hy));have hmx : mx.map ev' = (mx.map ev).map (bW g d) := ho mx fun y hy => hev y (by simp only [Op.operands, Array.toList_append, List.mem_append]; exact .inr hy)
  cases mx with
  | none =>
   simp only [za, fp];rw [hx, hlo, hhi];exact e6.bind fun el _ => e6.bind fun e _ => e6.val h (ad4 _ _ _ _)
  | some mx =>
   cases lo with
   | some lo => cases hi <;> exact e6.no
   | none =>
    cases hi with
    | none => exact e6.no
    | some hi =>
     simp only [fA, Option.some.injEq] at hhi hmx;simp only [za, fp];rw [hx, hhi, hmx];refine e6.bind fun el _ => e6.bind fun e _ => ?_;intro v E' hv;obtain ⟨z, hz, e⟩ := bh.1 hv;cases e;rw [Uk hz];exact ⟨H, rfl, h⟩
 case fieldAddr st x f =>
  simp only [za, fp];rw [hev x (by simp [Op.operands])];refine e6.bind fun f _ => e6.bind fun n _ => ?_
  split
  ·exact e6.no
  ·exact e6.val h (ar1 _ _)
 case field st x f =>
  simp only [za, fp];rw [hev x (by simp [Op.operands])];exact e6.bind fun f _ => e6.bind fun n _ => e6.val h (an4 _ _ _)
 case indexAddr t x i =>
  simp only [za, fp];rw [hev x (by simp [Op.operands]), hev i (by simp [Op.operands])]
  split
  ·rename_i hu; rw [hu]; exact e6.bind fun e _ => e6.val h (ar2 _ _ _)
  ·rename_i hu; rw [hu]; exact e6.bind fun e _ => e6.val h (an3 _ _ _ _)
  ·exact e6.no
 case index t x i =>
  simp only [za, fp];rw [hev x (by simp [Op.operands]), hev i (by simp [Op.operands])]
  split
  ·rename_i hu; rw [hu]; exact e6.bind fun e _ => e6.bind fun n _ => e6.val h (Uj _ _ _ _ _)
  ·rename_i hu; rw [hu]; exact e6.val h (Ui _ _)
  ·exact e6.no
 case lookup t m k ok =>
  simp only [za, fp];rw [hev m (by simp [Op.operands]), hev k (by simp [Op.operands])];exact e6.bind fun kt _ => e6.bind fun fl _ => e6.bind fun z hz => e6.val h (h.lookup fl (kI hz).1 _ _ _)
 case mapUpdate t m k x =>
  simp only [za, fp];rw [hev m (by simp [Op.operands]), hev k (by simp [Op.operands]), hev x (by simp [Op.operands])];exact e6.bind fun kt _ => e6.bind fun fl _ => e6.heap _ tg (h.update _ _ _ _)
 case extract t i =>
  simp only [za, fp];rw [hev t (by simp [Op.operands])];exact e6.val h (P1 _ _)
 case call k =>
  obtain ⟨callee, args, ats⟩ := k;have ha : args.toList.map ev' = iv g d (args.toList.map ev) := Ri fun x hx => hev x (by simp only [Op.operands, Call.operands, Array.toList_append, List.mem_append]; exact .inr hx)
  cases callee with
  | builtin b =>
   simp only [za, fp];rw [ha];exact ND h _ _ _
  | value f =>
   simp only [za, fp];rw [ha, hev f (by simp [Op.operands, Call.operands])];intro v E' hx;obtain ⟨q, hq, hx⟩ := aI.1 hx;rw [Uh, hq];exact hc E H _ _ h v E' hx
  | invoke r m => exact e6.no
 all_goals exact e6.no
end
def tEv (T : Tr Value) : Operand → Value
 | .tmp t => match T.get t with
  | some v => v
  | none => undef
 | .const v => v
 | .global g => .pointer (some ⟨g, 0, none⟩)
 | .func f => .func (.func f) #[] #[]
def asA (m : Nat) (T : Tr Value) (dst : Option Tmp) (v : Value) : Option (Tr Value) :=
 match dst with
 | some j => match Nat.blt j m with
  | true => Tr.set v 24 T j
  | false => none
 | none => some T
def Ux (ops : Array Oper) (T : Tr Value) (j : Nat) : Option Bool :=
 match (ops[j]?).bind (·.dst) with
 | some t => match T.get t with
  | some (.bool b) => some b
  | _ => none
 | none => none
def Yt (P : Program) (G : List Nat) (call : TF) (ops : Array Oper) (m : Nat) (o : Oper) (T : Tr Value) (E : EH) : Option (Tr Value × EH) :=
 match o.op.operands.toList.all (QA G) with
 | true => match Region.wanted o (Ux ops T) with
  | true => (za P call (tEv T) o E).bind fun r => (asA m T o.dst r.1).map fun T' => (T', r.2)
  | false => (asA m T o.dst undef).map fun T' => (T', E)
 | false => none
def Uw (P : Program) (G : List Nat) (call : TF) (ops : Array Oper) (m : Nat) : List Oper → Tr Value → EH → List (Tr Value × EH) → Option (List (Tr Value × EH) × Tr Value × EH)
 | [], T, E, hist => some (hist ++ [(T, E)], T, E)
 | o :: rest, T, E, hist => (Yt P G call ops m o T E).bind fun r => Uw P G call ops m rest r.1 r.2 (hist ++ [(T, E)])
def atU (P : Program) (G : List Nat) (hist : List (Tr Value × EH)) (ops : Array Oper) (p : Nat × Nat) : Bool :=
 match ops[p.1]?, hist[p.1]?, hist[if p.2 < p.1 then p.2 else p.2 + 1]? with
 | some o, some s, some s' => o.op.operands.toList.all (QA G) && eqO (tRd P (tEv s.1) o.op s'.2) (tRd P (tEv s.1) o.op s.2)
 | _, _, _ => false
def DD (P : Program) (G : List Nat) (call : TF) (ops : Array Oper) (m : Nat) (draw : Bool) (T : Tr Value) (E : EH) : Option (Tr Value × EH) :=
 match draw with
 | true => match u2 ops.toList with
  | true => (Uw P G call ops m ops.toList T E []).bind fun r => match (d9 ops.toList).all (atU P G r.1 ops) with
   | true => some r.2
   | false => none
  | false => none
 | false => (Uw P G call ops m ops.toList T E []).map (·.2)
abbrev TR := AE × Tr Value × EH
def Ys (f : Tr Value → EH → Option TR) : Nat → Tr Value → EH → Option TR
 | 0, _, _ => none
 | n + 1, T, E => (f T E).bind fun r => match r.1 with
  | .normal => Ys f n r.2.1 r.2.2
  | _ => some r
def jZ (P : Program) (G : List Nat) (call : TF) (N m : Nat) : Code → Tr Value → EH → Option TR
 | .skip, T, E => some (.normal, T, E)
 | .label _, T, E => some (.normal, T, E)
 | .region _ ops draw, T, E => (DD P G call ops m draw T E).map fun s => (.normal, s.1, s.2)
 | .seq x y, T, E => (jZ P G call N m x T E).bind fun r => match r.1 with
  | .normal => jZ P G call N m y r.2.1 r.2.2
  | _ => some r
 | .cond c x y, T, E => match QA G c with
  | true => match tEv T c with
   | .bool true => jZ P G call N m x T E
   | .bool false => jZ P G call N m y T E
   | _ => none
  | false => none
 | .block id x, T, E => (jZ P G call N m x T E).map fun r => match r.1 with
  | .exit i => if i = id then (.normal, r.2.1, r.2.2) else r
  | _ => r
 | .loop x, T, E => Ys (jZ P G call N m x) N T E
 | .exit id, T, E => some (.exit id, T, E)
 | .ret, T, E => some (.ret, T, E)
 | _, _, _ => none
def G9 (T : Tr Value) (t : Nat) : Value := match T.get t with
 | some v => v
 | none => undef
def zb (P : Program) (T : Tr Value) (E : EH) : ResultVar → Option Value
 | .tmp t => some (G9 T t)
 | .cell a t => (f7 P t).bind fun g => match g with
  | some n => agD n (G9 T a) E
  | none => agC (G9 T a) E
def JO (P : Program) (T : Tr Value) (E : EH) : List ResultVar → Option (List Value)
 | [] => some []
 | r :: rs => (zb P T E r).bind fun v => (JO P T E rs).bind fun vs => some (v :: vs)
def aoG (P : Program) (rs : List ResultVar) (r : TR) : Option (Value × EH) :=
 match r.1 with
 | .exit _ => none
 | _ => (JO P r.2.1 r.2.2 rs).map fun vs => (match vs with
  | [v] => v
  | vs => .tuple vs.toArray, r.2.2)
def P8 : List Value → Nat → Tr Value → Option (Tr Value)
 | [], _, T => some T
 | v :: vs, i, T => (Tr.set v 24 T i).bind fun T' => P8 vs (i + 1) T'
def aoF (P : Program) (G : List Nat) (call : TF) (N n : Nat) (rs : List ResultVar) (s : DSh) (T : Tr Value) (E : EH) : Option (Value × EH) :=
 (jZ P G call N n s.c1 T E).bind fun r => match r.1 with
  | .normal => match Nat.blt s.t n with
   | true => (Yt P G call s.ops2 n s.om r.2.1 r.2.2).bind fun q => (Uw P G call s.ops3 n s.ops3.toList q.1 q.2 []).bind fun z => aoG P rs (.normal, z.2.1, z.2.2)
   | false => none
  | _ => none
def JN (P : Program) (G D : List Nat) (N : Nat) : Nat → TF
 | 0 => fun _ _ _ => none
 | k + 1 => fun f args E => match P.funcs[f]? with
  | some fn => if fn.name = "runtime.NumGoroutine" then none else match fn.body with
   | some c => match Nat.ble args.length fn.ntmps with
    | true => (P8 args 0 .lf).bind fun T => match lG c with
     | none => (jZ P G (JN P G D N k) N fn.ntmps c T E).bind (aoG P fn.results.toList)
     | some s => match D.contains s.k with
      | true => aoF P G (JN P G D N k) N fn.ntmps fn.results.toList s T E
      | false => none
    | false => none
   | none => none
  | none => none
section
variable {P : Program} {G : List Nat} {g d m N : Nat} {F : List AObj}
structure ER (g d m : Nat) (T : Tr Value) (A : List Value) : Prop where
 len : A.length = m
 get : ∀ t, A[t]?.getD undef = bW g d (G9 T t)
theorem P7 {v : Value} {T T' : Tr Value} {j : Nat} (h : Tr.set v 24 T j = some T') (t : Nat) : G9 T' t = if t = j then v else G9 T t := by
 unfold G9;rw [Tr.get_set 24 h t]
 by_cases e : t = j
 ·rw [if_pos e, if_pos e]
 ·rw [if_neg e, if_neg e]
theorem ER.put {T T' : Tr Value} {A : List Value} (h : ER g d m T A) {dst : Option Tmp} {v : Value} (hp : asA m T dst v = some T') : ER g d m T' (ma A dst ((bW g d) v)) := by
 unfold asA at hp
 cases dst with
 | none => cases hp; exact h
 | some j =>
  simp only at hp
  split at hp
  ·rename_i hb
   have hj : j < m := Nat.le_of_ble_eq_true hb;refine ⟨by simp [ma, h.len], fun t => ?_⟩;rw [P7 hp];simp only [ma];rw [List.getElem?_set]
   by_cases e : t = j
   ·rw [if_pos e, if_pos e.symm, if_pos (by rw [h.len]; omega)]; rfl
   ·rw [if_neg e, if_neg (fun x => e x.symm)]; exact h.get t
  ·cases hp
theorem ER.ev {T : Tr Value} {A : List Value} (h : ER g d m T A) (hG : ∀ b ∈ G, b < g) {x : Operand} (hx : QA G x = true) : f8 A x = (bW g d) (tEv T x) := by
 cases x with
 | tmp t => exact h.get t
 | const v => exact (PZ hx).symm
 | global b =>
  simp only [QA, List.contains_iff_mem] at hx;simp [f8, tEv, Bz, CP, hG b hx]
 | func f => simp [f8, tEv]
theorem ER.yield {T : Tr Value} {A : List Value} (h : ER g d m T A) (ops : Array Oper) : dT ops A = Ux ops T := by
 funext j
 unfold dT Ux
 cases (ops[j]?).bind (·.dst) with
 | none => rfl
 | some t =>
  simp only [bO];have hg := h.get t;unfold G9 at hg
  cases hT : T.get t with
  | none =>
   rw [hT] at hg;simp only [tg] at hg
   cases hA : A[t]? with
   | none => rfl
   | some v => rw [hA] at hg; simp only [Option.getD_some] at hg; subst hg; rfl
  | some v =>
   rw [hT] at hg;simp only at hg
   cases hA : A[t]? with
   | none => rw [hA] at hg; simp only [Option.getD_none] at hg; cases v <;> simp [undef] at hg ⊢
   | some w => rw [hA] at hg; simp only [Option.getD_some] at hg; subst hg; cases v <;> simp
structure St (g d m : Nat) (F : List AObj) (x : Tr Value × EH) (y : List Value × AH) : Prop where
 er : ER g d m x.1 y.1
 hr : HR g d F x.2 y.2
theorem P4 {c : TF} {c' : bM} (hG : ∀ b ∈ G, b < g) (hc : tu g d F c c') {ops : Array Oper} {o : Oper} {T : Tr Value} {E : EH} {A : List Value} {H : AH} {r} (hS : St g d m F (T, E) (A, H)) (h : Yt P G c ops m o T E = some r) :
 ∃ r', gM P G c' ops o A H = some r' ∧ St g d m F r r' := by
 unfold Yt at h;unfold gM
 split at h
 ·rename_i hok
  rw [if_pos hok];have hev : ∀ x, x ∈ o.op.operands.toList → f8 A x = (bW g d) (tEv T x) := fun x hx => hS.er.ev hG (List.all_eq_true.1 hok x hx);rw [hS.er.yield]
  split at h
  ·rename_i hw
   rw [if_pos hw];obtain ⟨⟨v, E1⟩, h1, h⟩ := aI.1 h;obtain ⟨T', h2, e⟩ := bh.1 h;cases e;obtain ⟨H', h3, h4⟩ := avA hS.hr hc hev v E1 h1;rw [h3];exact ⟨_, rfl, hS.er.put h2, h4⟩
  ·rename_i hw
   rw [if_neg (by rw [hw]; simp)];obtain ⟨T', h2, e⟩ := bh.1 h;cases e;refine ⟨_, rfl, ?_, hS.hr⟩;have := hS.er.put h2
   rwa [tg] at this
 ·cases h
theorem L9 {c : TF} {c' : bM} (hG : ∀ b ∈ G, b < g) (hc : tu g d F c c') {ops : Array Oper} : ∀ (l : List Oper) {T : Tr Value} {E : EH} {A : List Value} {H : AH} {hist r}, St g d m F (T, E) (A, H) → Uw P G c ops m l T E hist = some r →
 (∃ r', dl P G c' ops l A H = some r' ∧ St g d m F r.2 r') ∧ ∃ t, r.1 = hist ++ t ∧ t.length = l.length + 1 ∧ ∀ i, i ≤ l.length → ∃ x y, t[i]? = some x ∧ dl P G c' ops (l.take i) A H = some y ∧ St g d m F x y := by
 intro l
 induction l with
 | nil =>
  intro T E A H hist r hS h;simp only [Uw] at h; cases h;refine ⟨⟨_, rfl, hS⟩, [(T, E)], rfl, rfl, ?_⟩;intro i hi
  have : i = 0 := by simpa using hi
  subst this;exact ⟨_, _, rfl, rfl, hS⟩
 | cons o l ih =>
  intro T E A H hist r hS h;simp only [Uw] at h;obtain ⟨q, hq, h⟩ := aI.1 h;obtain ⟨⟨A1, H1⟩, h1, hS1⟩ := P4 hG hc hS hq;obtain ⟨T1, E1⟩ := q;obtain ⟨⟨r', h2, hS2⟩, t, e, hl, ht⟩ := ih hS1 h;refine ⟨⟨r', by simp only [dl, h1, bO]; exact h2, hS2⟩, (T, E) :: t, by rw [e]; simp, by simp [hl], ?_⟩;intro i hi
  cases i with
  | zero => exact ⟨_, _, rfl, rfl, hS⟩
  | succ i =>
   obtain ⟨x, y, hx, hy, hxy⟩ := ht i (by simpa using hi);exact ⟨x, y, by simpa using hx, by simp only [List.take_succ_cons, dl, h1, bO]; exact hy, hxy⟩
theorem TG {c : TF} {c' : bM} (hG : ∀ b ∈ G, b < g) (hc : tu g d F c c') {ops : Array Oper} {draw : Bool} {T : Tr Value} {E : EH} {A : List Value} {H : AH} {r} (hS : St g d m F (T, E) (A, H)) (h : DD P G c ops m draw T E = some r) :
 ∃ r', gz P G c' ops draw A H = some r' ∧ St g d m F r r' := by
 cases draw with
 | false =>
  simp only [DD, gz] at h ⊢;obtain ⟨q, hq, e⟩ := bh.1 h;subst e;exact (L9 hG hc _ hS hq).1
 | true =>
  simp only [DD, gz] at h ⊢
  split at h
  ·rename_i hreg
   obtain ⟨q, hq, h⟩ := aI.1 h
   split at h
   ·rename_i hall
    cases h;obtain ⟨⟨r', h1, h2⟩, t, e, hl, ht⟩ := L9 hG hc _ hS hq;refine ⟨r', ?_, h2⟩;unfold nG;rw [hreg];simp only
    cases hp : d9 ops.toList with
    | nil => exact h1
    | cons p ps =>
     simp only;rw [la ?_]
     ·exact h1
     ·rw [← hp]
      intro p hpm o ho;have hx := List.all_eq_true.1 hall p hpm;unfold atU at hx;rw [ho] at hx;simp only [List.nil_append] at e
      have st : ∀ i x, q.1[i]? = some x → St g d m F x (j7 P G c' ops A H i) := by
       intro i x hs
       have hi : i < t.length := by rw [e] at hs; exact (zZ.1 hs).1
       obtain ⟨x', y, hx', hy, hxy⟩ := ht i (by omega);rw [e, hx'] at hs;cases hs;unfold j7;rw [hy];exact hxy
      split at hx
      ·rename_i o' x1 x2 ho' hs hs'
       cases ho';simp only [Bool.and_eq_true] at hx;have hev : ∀ x, x ∈ o.op.operands.toList → f8 (j7 P G c' ops A H p.1).1 x = (bW g d) (tEv x1.1 x) := fun x hxm => (st _ _ hs).er.ev hG (List.all_eq_true.1 hx.1 x hxm);rw [atQ (st _ _ hs').hr hev, atQ (st _ _ hs).hr hev, Zi hx.2]
      ·cases hx
   ·cases h
  ·cases h
structure Ar (g d m : Nat) (F : List AObj) (x : TR) (y : AR) : Prop where
 e : x.1 = y.1
 st : St g d m F x.2 y.2
theorem NI {c : TF} {c' : bM} (hG : ∀ b ∈ G, b < g) (hc : tu g d F c c') : ∀ (k : Code) {T : Tr Value} {E : EH} {A : List Value} {H : AH} {r : TR}, St g d m F (T, E) (A, H) → jZ P G c N m k T E = some r →
 ∃ r', aX P G c' k A H = some r' ∧ Ar g d m F r r' := by
 intro k
 induction k with
 | region id ops draw =>
  intro T E A H r hS hr;simp only [jZ, aX] at hr ⊢;obtain ⟨q, hq, e⟩ := bh.1 hr;obtain ⟨r', h1, h2⟩ := TG hG hc hS hq;subst e;rw [h1];exact ⟨_, rfl, rfl, h2⟩
 | seq x y ihx ihy =>
  intro T E A H r hS hr;simp only [jZ, aX] at hr ⊢;obtain ⟨⟨e, T1, E1⟩, hx, hr⟩ := aI.1 hr;obtain ⟨⟨e', A1, H1⟩, h1, h2⟩ := ihx hS hx;have he : e = e' := h2.e;subst he;rw [h1];simp only [bO]
  cases e with
  | normal => exact ihy h2.st hr
  | exit i => cases hr; exact ⟨_, rfl, h2⟩
  | ret => cases hr; exact ⟨_, rfl, h2⟩
 | cond b x y ihx ihy =>
  intro T E A H r hS hr;simp only [jZ, aX] at hr ⊢
  split at hr
  ·rename_i hok
   rw [hS.er.ev hG hok]
   split at hr
   ·rename_i e; rw [e]; simp only [Ym]; exact ihx hS hr
   ·rename_i e; rw [e]; simp only [Ym]; exact ihy hS hr
   ·cases hr
  ·cases hr
 | block id x ih =>
  intro T E A H r hS hr;simp only [jZ, aX] at hr ⊢;obtain ⟨⟨e, T1, E1⟩, hx, hr⟩ := bh.1 hr;obtain ⟨⟨e', A1, H1⟩, h1, h2⟩ := ih hS hx;have he : e = e' := h2.e;subst he;rw [h1];subst hr
  cases e with
  | normal => exact ⟨_, rfl, h2⟩
  | exit i =>
   simp only [fA]
   by_cases hi : i = id
   ·rw [if_pos hi, if_pos hi]; exact ⟨_, rfl, rfl, h2.st⟩
   ·rw [if_neg hi, if_neg hi]; exact ⟨_, rfl, h2⟩
  | ret => exact ⟨_, rfl, h2⟩
 | loop x ih =>
  intro T E A H r hS hr;simp only [jZ, aX] at hr ⊢
  suffices key : ∀ n T E A H, St g d m F (T, E) (A, H) → Ys (jZ P G c N m x) n T E = some r → ∃ r', fG (aX P G c' x) n A H = some r' ∧ Ar g d m F r r' from by
   obtain ⟨r', h1, h2⟩ := key N T E A H hS hr;exact ⟨r', dk.2 ⟨N, h1⟩, h2⟩
  clear hr hS
  intro n
  induction n with
  | zero => intro T E A H hS hr; cases hr
  | succ n ihn =>
   intro T E A H hS hr;simp only [Ys, fG] at hr ⊢;obtain ⟨⟨e, T1, E1⟩, hx, hr⟩ := aI.1 hr;obtain ⟨⟨e', A1, H1⟩, h1, h2⟩ := ih hS hx;have he : e = e' := h2.e;subst he;rw [h1];simp only [bO]
   cases e with
   | normal => exact ihn _ _ _ _ h2.st hr
   | exit i => cases hr; exact ⟨_, rfl, h2⟩
   | ret => cases hr; exact ⟨_, rfl, h2⟩
 | skip => intro T E A H r hS hr; simp only [jZ] at hr; cases hr; exact ⟨_, rfl, rfl, hS⟩
 | label l => intro T E A H r hS hr; simp only [jZ] at hr; cases hr; exact ⟨_, rfl, rfl, hS⟩
 | exit i => intro T E A H r hS hr; simp only [jZ] at hr; cases hr; exact ⟨_, rfl, rfl, hS⟩
 | ret => intro T E A H r hS hr; simp only [jZ] at hr; cases hr; exact ⟨_, rfl, rfl, hS⟩
 | _ => intro T E A H r hS hr; cases hr
theorem TJ {T : Tr Value} {E : EH} {A : List Value} {H : AH} (hS : St g d m F (T, E) (A, H)) (r : ResultVar) : md P A H r = (zb P T E r).map (bW g d) := by
 cases r with
 | tmp t => simp only [md, zb, fA]; rw [hS.er.get t]
 | cell a t =>
  simp only [md, zb];rw [hS.er.get a]
  cases f7 P t with
  | none => rfl
  | some n => cases n with
   | none => exact hS.hr.ld1 _
   | some n => exact hS.hr.ldN _ _
theorem alC {T : Tr Value} {E : EH} {A : List Value} {H : AH} (hS : St g d m F (T, E) (A, H)) : ∀ rs : List ResultVar, uC P A H rs = (JO P T E rs).map (iv g d) := by
 intro rs
 induction rs with
 | nil => rfl
 | cons r rs ih =>
  simp only [uC, JO];rw [TJ hS, ih]
  cases zb P T E r with
  | none => rfl
  | some v => cases JO P T E rs <;> rfl
theorem Xf {rs : List ResultVar} {x : TR} {y : AR} (h : Ar g d m F x y) : e6 g d F (aoG P rs x) (afG P rs y) := by
 intro v E' hx;obtain ⟨e, T, E⟩ := x;obtain ⟨e', A, H⟩ := y;have he : e = e' := h.e;subst he;have hS := h.st;have hm := alC (P := P) hS rs
 have key : ∀ vs, JO P T E rs = some vs → ju P A H rs = some ((bW g d) (match vs with | [v] => v | vs => .tuple vs.toArray)) := by
  intro vs hvs;unfold ju;rw [hm, hvs];simp only [fA]
  congr 1
  match vs with
  | [] => simp [iv]
  | [v] => rfl
  | v :: w :: vs => simp [iv]
 cases e with
 | exit i => cases hx
 | normal =>
  simp only [aoG, afG] at hx ⊢;obtain ⟨vs, hvs, e⟩ := bh.1 hx;cases e;rw [key vs hvs];exact ⟨H, rfl, hS.hr⟩
 | ret =>
  simp only [aoG, afG] at hx ⊢;obtain ⟨vs, hvs, e⟩ := bh.1 hx;cases e;rw [key vs hvs];exact ⟨H, rfl, hS.hr⟩
theorem ak2 : ∀ (vs : List Value) (i : Nat) (T : Tr Value) {T' : Tr Value}, P8 vs i T = some T' → ∀ t, G9 T' t = if i ≤ t ∧ t < i + vs.length then (vs[t - i]?).getD undef else G9 T t := by
 intro vs
 induction vs with
 | nil => intro i T T' h t; simp only [P8] at h; cases h; rw [if_neg (by simp only [List.length_nil]; omega)]
 | cons v vs ih =>
  intro i T T' h t;simp only [P8] at h;obtain ⟨T1, h1, h⟩ := aI.1 h;rw [ih _ _ h t, P7 h1]
  by_cases e1 : i + 1 ≤ t ∧ t < i + 1 + vs.length
  ·rw [if_pos e1, if_pos (by simp; omega)]
   rw [show t - i = (t - (i + 1)) + 1 from by omega, List.getElem?_cons_succ]
  ·rw [if_neg e1]
   by_cases e2 : t = i
   ·subst e2; rw [if_pos rfl, if_pos (by simp)]; simp
   ·rw [if_neg e2, if_neg (by simp; omega)]
theorem af2 {D : List Nat} (hG : ∀ b ∈ G, b < g) (hD : ∀ k ∈ D, wE P k) : ∀ k, tu g d F (JN P G D N k) (f6 P G k) := by
 intro k
 induction k with
 | zero => intro E H f args hR v E' h; cases h
 | succ k ih =>
  intro E H f args hR v E' h;rw [JN] at h;rw [f6];simp only [] at h ⊢
  cases hf : P.funcs[f]? with
  | none => rw [hf] at h; cases h
  | some fn =>
   rw [hf] at h;simp only at h ⊢
   split at h
   ·cases h
   ·rename_i hn
    rw [if_neg hn]
    cases hb : fn.body with
    | none => rw [hb] at h; cases h
    | some c =>
     rw [hb] at h;simp only at h ⊢
     split at h
     ·rename_i hle
      have hle := Nat.le_of_ble_eq_true hle;obtain ⟨T, hT, h⟩ := aI.1 h
      have hS : St g d fn.ntmps F (T, E) (iv g d args ++ List.replicate (fn.ntmps - (iv g d args).length) undef, H) := by
       refine ⟨⟨by simp; omega, fun t => ?_⟩, hR⟩;rw [ak2 _ _ _ hT];simp only [iv, List.getElem?_append, sE, vz, List.getElem?_replicate]
       by_cases e : t < args.length
       ·rw [if_pos (show 0 ≤ t ∧ t < 0 + args.length from by omega), if_pos e]
        simp [cG e]
       ·rw [if_neg (show ¬ (0 ≤ t ∧ t < 0 + args.length) from by omega), if_neg e]
        have : G9 .lf t = undef := rfl;rw [this, tg]
        split <;> rfl
      cases hd : lG c with
      | none =>
       rw [hd] at h;obtain ⟨r, hr, h⟩ := aI.1 h;obtain ⟨r', h1, h2⟩ := NI hG ih c hS hr;simp only;unfold qO;rw [h1];exact Xf h2 v E' h
      | some q =>
       rw [hd] at h;simp only at h ⊢
       split at h
       ·rename_i hin
        rw [la (hD _ (by simpa using hin))];unfold aoF at h;unfold pU;obtain ⟨⟨e1, T1, E1⟩, hr, h⟩ := aI.1 h;obtain ⟨⟨e2, A1, H1⟩, h1, h2⟩ := NI hG ih q.c1 hS hr;have he : e1 = e2 := h2.e;subst he;rw [h1];simp only [bO]
        cases e1 with
        | exit i => cases h
        | ret => cases h
        | normal =>
         simp only at h ⊢
         split at h
         ·rename_i hlt
          have hlt : q.t < fn.ntmps := Nat.le_of_ble_eq_true hlt;have hlen : A1.length = fn.ntmps := h2.st.er.len;rw [if_neg (by omega)];obtain ⟨⟨T2, E2⟩, h3, h⟩ := aI.1 h;obtain ⟨⟨A2, H2⟩, h4, h5⟩ := P4 hG ih h2.st h3;obtain ⟨z, h6, h⟩ := aI.1 h;obtain ⟨⟨⟨A3, H3⟩, h7, h8⟩, _⟩ := L9 hG ih _ h5 h6;rw [h4];simp only [bO];rw [h7];exact Xf (x := (.normal, z.2.1, z.2.2)) (y := (.normal, A3, H3)) ⟨rfl, h8⟩ v E' h
         ·cases h
       ·cases h
     ·cases h
end
def alZ (tab : List Value) : Option (Value × EH) → Bool
 | some (.bool true, E) => match E.get 0 with
  | some (.cells true cs) => HG (eqV 0) cs tab
  | _ => false
 | _ => false
def P9 (tab : List Value) : EH := ⟨1, .nd (some (.cells true tab)) .lf .lf⟩
theorem QV {P : Program} {D : List Nat} {N k f : Nat} {tab : List Value} (hD : ∀ k ∈ D, wE P k) (hl : tab.all dr = true) (h : alZ tab (JN P [0] D N k f [] (P9 tab)) = true)
 {H : AH} (hH : H.get 0 = some (.cells true tab)) : ∃ H', aF P [0] f [] H = some (.bool true, H') ∧ H.size ≤ H'.size ∧ ∀ i, i < H.size → H'.get i = H.get i := by
 obtain ⟨objs⟩ := H
 cases objs with
 | nil => cases hH
 | cons o F =>
  have ho : o = .cells true tab := by simpa [AH.get] using hH
  subst ho
  have hR : HR 1 F.length F (P9 tab) ⟨.cells true tab :: F⟩ := by
   refine ⟨rfl, bA _, by simp [AH.size, P9, Nat.add_comm], fun b => ?_, fun b hb => ?_, fun b h1 h2 => ?_⟩
   ·cases b with
    | zero =>
     have : CP 1 F.length 0 = 0 := rfl;rw [this];show some _ = some (AObj.cells true (iv 1 F.length tab));rw [y6 hl]
    | succ b =>
     have e : CP 1 F.length (b + 1) = b + 1 + F.length := by simp [CP]
     have e2 : (P9 tab).get (b + 1) = none := by
      simp only [EH.get, P9, Tr.get]; split <;> rfl
     rw [e, e2];exact AH.get_none (by simp [AH.size]; omega)
   ·have : 1 ≤ b := hb
    obtain ⟨b, rfl⟩ : ∃ c, b = c + 1 := ⟨b - 1, by omega⟩
    simp only [EH.get, P9, Tr.get]; split <;> rfl
   ·obtain ⟨b, rfl⟩ : ∃ c, b = c + 1 := ⟨b - 1, by omega⟩
    simp [AH.get]
  unfold alZ at h
  split at h
  ·rename_i E' hE
   obtain ⟨H', h1, h2⟩ := af2 (F := F) (N := N) (P := P) (by simp) hD k (P9 tab) _ f [] hR _ _ hE;refine ⟨H', ?_, ?_, fun i hi => ?_⟩
   ·have := UM k _ _ _ _ h1
    simpa using this
   ·rw [h2.size]
    have := h2.le;simp [AH.size]; omega
   ·split at h
    ·rename_i cs hcs
     have he : cs = tab := Es (Iu 0) _ _ h;subst he
     cases i with
     | zero =>
      have := h2.get 0;rw [show CP 1 F.length 0 = 0 from rfl, hcs] at this;rw [this];show some (AObj.cells true (iv 1 F.length cs)) = _;rw [y6 hl]; rfl
     | succ i =>
      have hi : i < F.length := by simpa [AH.size] using hi
      rw [h2.fr (i + 1) (by omega) (by omega)];simp [AH.get]
    ·cases h
  ·cases h
section
variable {P : Program} {w : World} {ev : Operand → Value} {d : Option Tmp} {x : Operand} {v a b : Value} {y : TypeId} {p : String} {e : Array Edge} {gd : Option (Nat × Bool)}
end
def tabC : List Value := [0,1,56,2,57,49,28,3,61,58,42,50,38,29,17,4,62,47,59,36,45,43,51,22,53,39,33,30,24,18,12,5,63,55,48,27,60,41,37,16,46,35,44,21,52,32,23,11,54,26,40,15,34,20,31,10,25,14,19,9,13,8,7,6].map fun n => .int .u8 n
theorem Ns : alZ tabC (JN Tryz.prog [0] [] 100000 60 11 [] (P9 tabC)) = true := by decide +kernel
theorem ac.keeps {P : SP} {H H' : AH} (h : ac P H) (k : ∀ i, i < H.size → H'.get i = H.get i) : ac P H' := by
 obtain ⟨x, hx, hg⟩ := h
 exact ⟨x, hx, fun i o hi => by
  have := hg i o hi
  rw [k i (AH.lt_of_get this)]; exact this⟩
theorem Nq {H0 : AH} (hT : H0.get 0 = some (.cells true tabC)) : Hs (Xg H0) 0 (.cells true tabC) := ⟨fun h => (Fx.refl H0).fx h 0 _ hT⟩
theorem zk {H0 : AH} {v : Value} {l : List Int} (h : Abs H0 (.slice (.int .i64)) l [v]) : Rd (Xg H0) v 1 eF l :=
 Rd.arg (t := .int .i64) (enc := eF) (E := inferInstanceAs (Enc eF 1)) (fun x c h => h.1) h
abbrev ITy : Ty := .int .i64
abbrev CfgTy : Ty := .pair ITy (.pair ITy (.pair ITy (.pair ITy (.pair (.int .u64) .unit))))
abbrev ClTy : Ty := .pair ITy (.pair ITy (.pair ITy (.pair ITy .unit)))
def aeM (x : ClTy.I) : Cl := ⟨x.1, x.2.1, x.2.2.1, x.2.2.2.1⟩
theorem auH {H : AH} {x : ClTy.I} {cs : List Value} (h : Abs H ClTy x cs) : cs = Cl.cells (aeM x) := by
 obtain ⟨c1, c2, rfl, h1, c3, c4, rfl, h2, c5, c6, rfl, h3, c7, c8, rfl, h4, h5⟩ := h;have h5 : c8 = [] := h5;rw [h1.1, h2.1, h3.1, h4.1, h5]
 rfl
theorem Va {H : AH} {x : CfgTy.I} {cs : List Value} (h : Abs H CfgTy x cs) : ∃ c : iF, cs = iF.cells c := by
 obtain ⟨c1, c2, rfl, h1, c3, c4, rfl, h2, c5, c6, rfl, h3, c7, c8, rfl, h4, c9, c10, rfl, h5, h6⟩ := h;have h6 : c10 = [] := h6;obtain ⟨e5, hw⟩ := h5
 have : 0 ≤ x.2.2.2.2.1 ∧ x.2.2.2.2.1 ≤ 18446744073709551615 := by simpa [Lit.wf, IntKind.has, IntKind.min, IntKind.max, IntKind.bits, IntKind.signed] using hw
 refine ⟨⟨x.1, x.2.1, x.2.2.1, x.2.2.2.1, x.2.2.2.2.1.toNat⟩, ?_⟩;rw [h1.1, h2.1, h3.1, h4.1, e5, h6];show _ = [vi x.1, vi x.2.1, vi x.2.2.1, vi x.2.2.2.1, .int .u64 ((x.2.2.2.2.1.toNat : Nat) : Int)];rw [Int.toNat_of_nonneg this.1]
 rfl
theorem DU {H0 : AH} {v : Value} {l : List ClTy.I} (h : Abs H0 (.slice ClTy) l [v]) : Rd (Xg H0) v 4 Cl.cells (l.map aeM) := by
 have E : Enc (fun x : ClTy.I => Cl.cells (aeM x)) ClTy.w := ⟨fun _ => rfl, fun _ => rfl, by decide⟩;have r := Rd.arg (t := ClTy) (enc := fun x => Cl.cells (aeM x)) (E := E) (fun x c hx => auH hx) h;refine ⟨fun {H} hh => ?_⟩;have := r.rd hh;rw [List.flatMap_map, sE];exact this
theorem JT {P : SP} {H : AH} {k : Value × AH → OV} {Q : Value → AH → Prop} (h : ac P H) [i : Hs P 0 (.cells true tabC)] (hk : ∀ H', ac P H' → wp (k (vb true, H')) Q) : wp ((FF oa [] H).bind k) Q := by
 obtain ⟨H', e, _, hg⟩ := QV (D := []) (fun j hj => by cases hj) (by decide) Ns (i.get h);have e' : FF oa [] H = some (vb true, H') := e;rw [e'];exact hk H' (h.keeps hg)
structure New (σ : bd) (k : Nat) : Prop where
 si : SI σ k
 js : ∀ l, l.1 ≠ 10 → σ.μ.V l = 0
theorem JK {flow : Int} {obj : Nat} (h : obj < 4294967296) : dS flow obj % 4294967296 = obj := by
 unfold dS;omega
theorem New.lay {σ : bd} {k : Nat} (h : New σ k) (ho : σ.obs.length < 90) (f w most : Int) (hf : 0 ≤ f ∧ f < 1000) : New (σ.lay f w most) (k + 4) := by
 obtain ⟨⟨c, N, E, pts, V, obs, cells, slot, head⟩, js⟩ := h;obtain ⟨q1, q2, q3⟩ := t3 most
 have hsl : dS f σ.obs.length < 18446744073709551616 := by unfold dS; omega
 have hlen : (σ.lay f w most).obs.length = σ.obs.length + 1 := by simp [bd.lay, bd.make]
 refine ⟨⟨c, by simp [bd.lay, bd.make]; omega, by simp [bd.lay, bd.make]; omega, by simp [bd.lay, bd.make]; omega, fun l => ?_, by rw [hlen]; omega, fun o ho2 => ?_, fun s i => ?_, fun o => ?_⟩, fun l hl => ?_⟩
 ·show (if l = (10, f.tmod σ.c.sh, f.tdiv σ.c.sh) then dS f σ.obs.length else σ.μ.V l) < _
  split
  ·exact hsl
  ·exact V l
 ·rw [hlen] at ho2
  unfold aC;show 1 ≤ ((((σ.obs ++ [_])[o]?).map _).getD []).length ∧ ((((σ.obs ++ [_])[o]?).map _).getD []).length < 1000
  by_cases e : o < σ.obs.length
  ·rw [List.getElem?_append_left e]
   exact cells o e
  ·rw [show o = σ.obs.length from by omega, List.getElem?_append_right (bA _), Nat.sub_self]
   show 1 ≤ (List.replicate (eI most) Nh).length ∧ (List.replicate (eI most) Nh).length < 1000;rw [List.length_replicate];omega
 ·rw [hlen]
  show (if (10, s, i) = ((10 : Int), f.tmod σ.c.sh, f.tdiv σ.c.sh) then dS f σ.obs.length else σ.μ.V (10, s, i)) ≠ 0 → (if (10, s, i) = ((10 : Int), f.tmod σ.c.sh, f.tdiv σ.c.sh) then dS f σ.obs.length else σ.μ.V (10, s, i)) % 4294967296 < _
  split
  ·intro _
   rw [JK (by omega)];omega
  ·intro hv
   have := slot s i hv;omega
 ·show (if ((12 : Int), (o : Int), (0 : Int)) = (10, f.tmod σ.c.sh, f.tdiv σ.c.sh) then dS f σ.obs.length else σ.μ.V (12, o, 0)) ≤ _
  rw [if_neg (by simp)];have := head o;omega
 ·show (if l = (10, f.tmod σ.c.sh, f.tdiv σ.c.sh) then dS f σ.obs.length else σ.μ.V l) = 0
  rw [if_neg (fun e => hl (by rw [e]))];exact js l hl
theorem O2 (c : iF) (hc : da c = true) : ∀ n, n ≤ 16 → New (bd.made c n) (4 * n) := by
 intro n
 induction n with
 | zero =>
  intro _;exact ⟨⟨hc, bA _, bA _, bA _, fun _ => (by show (0 : Nat) < _; omega), (by show (0 : Nat) ≤ _; omega), fun o ho => (by cases ho), fun s i h => absurd rfl h, fun o => bA _⟩, fun _ _ => rfl⟩
 | succ n ih =>
  intro hn;have h := ih (by omega);have hm := (alA c n).2.2;unfold bd.made
  split
  ·exact h.lay (by omega) _ _ _ (by omega)
  ·exact ⟨h.si.mono (by omega), h.js⟩
abbrev bd.bump (σ : bd) (n : Nat) : bd := { σ with μ := { σ.μ with N := σ.μ.N + n } }
theorem SI.bump {σ : bd} {k : Nat} (h : SI σ k) (n : Nat) : SI (σ.bump n) (k + n) :=
 ⟨h.c, by have := h.N; show σ.μ.N + n ≤ _; omega, eE h.E (by omega), eE h.pts (by omega), h.V, eE h.obs (by omega), h.cells, h.slot, fun o => eE (h.head o) (by omega)⟩
theorem SI.clear {σ : bd} {k : Nat} (h : SI σ k) (s i : Int) : SI (σ.mem (σ.μ.put (10, s, i) 0)) k := by
 refine ⟨h.c, h.N, h.E, h.pts, fun x => ?_, h.obs, h.cells, fun s' i' => ?_, fun o => ?_⟩
 ·show (if x = (10, s, i) then 0 else σ.μ.V x) < _
  split
  ·omega
  ·exact h.V x
 ·show (if ((10 : Int), s', i') = (10, s, i) then 0 else σ.μ.V (10, s', i')) ≠ 0 → (if ((10 : Int), s', i') = (10, s, i) then 0 else σ.μ.V (10, s', i')) % _ < _
  split
  ·intro h; exact absurd rfl h
  ·exact h.slot s' i'
 ·show (if ((12 : Int), (o : Int), (0 : Int)) = (10, s, i) then 0 else σ.μ.V (12, o, 0)) ≤ _
  rw [if_neg (by simp)];exact h.head o
theorem aoX {α : Type} {P : SP} {H : AH} {s : Value} {enc : α → List Value} {l : List α} {i : Nat} {kk : IntKind} {v : Value} {Q : Value → AH → Prop} {k : Value → OV} (h : ac P H) [r : Rd P s 1 enc l] [E : Enc enc 1] (hi : i < l.length) (hv : enc l[i] = [v])
 (hk : ∀ a : Value, (∀ {P' : SP} {H' : AH}, ac P' H' → [Rd P' s 1 enc l] → ar a H' = some v) → wp (k a) Q) : wp (ad [.i 1 (.int kk (i : Int))] s k) Q := by
 obtain ⟨b, o, ro, row, rfl, h2, h3, h4⟩ := GE (s := s) (enc := enc) (l := l) h hi;rw [YQ hi];refine hk (qK b (o + i * 1)) fun {P' H'} h' _ => ?_;obtain ⟨b', o', ro', row', e', h2', h3', h4'⟩ := GE (s := .slice (some ⟨b, o, none⟩) l.length 1) (enc := enc) (l := l) h' hi
 obtain ⟨rfl, rfl⟩ : b = b' ∧ o = o' := by simpa using e'
 have c := XU (enc := enc) (l := l) (g := 0) h4' hi (by omega);rw [hv] at c;simp only [ar, uX, ez, bO, h2'];exact c
section
variable (p x : Nat) (rp : List Nat) (σ : bd) (K : Nat)
theorem av2 (who : Int) (hN : σ.μ.N < 800000) : Sp eg [vp p, vi who] (aM p rp σ) (fun _ : Unit => .tuple #[]) (fun _ => aM p rp (σ.mem (σ.μ.cnt who (2, 0, 0) 1))) := by
 intro R H h;obtain ⟨g, hrp, hg, h1⟩ := dh h;obtain ⟨y, H', e, h2⟩ := Pl p g σ who hN R H h1;exact ⟨y, H', e, bz g hrp hg h2⟩
theorem av3 (who : Int) (hN : σ.μ.N < 800000) : Sp fQ [vp x, vi who] (aJ x σ) (fun _ : Unit => .tuple #[]) (fun _ => aJ x (σ.mem (σ.μ.cnt who (2, 0, 0) 1))) := by
 intro R H h;obtain ⟨g, hg, h1⟩ := dz h;obtain ⟨y, H', e, h2⟩ := Qu x g σ who hN R H h1;exact ⟨y, H', e, cH g ⟨hg.1, hg.2.1, eE hg.2.2 (by simp)⟩ h2⟩
theorem tp {P : SP} {H : AH} {Q : Value → AH → Prop} {k : Value × AH → OV} {a b : Int} (h : ac P H) (h0 : 0 < b) (h1 : b < 9223372036854775808) (hk : ∀ H', ac P H' → wp (k (vi (dP a b), H')) Q) : wp ((FF bw [vi a, vi b] H).bind k) Q := by
 refine af h (cZ a b h0 h1) fun _ H1 h2 => ?_;exact hk H1 h2.to
end
theorem SI.slotput {σ : bd} {k : Nat} (h : SI σ k) (s i f : Int) (o : Nat) (hf : 0 ≤ f ∧ f ≤ 1048576) (ho : o < σ.obs.length) (hk : k < 400000) : SI (σ.mem (σ.μ.put (10, s, i) (dS f o))) k := by
 have hob := h.obs
 have hsl : dS f o < 18446744073709551616 := by unfold dS; omega
 refine ⟨h.c, h.N, h.E, h.pts, fun x => ?_, h.obs, h.cells, fun s' i' => ?_, fun o' => ?_⟩
 ·show (if x = (10, s, i) then dS f o else σ.μ.V x) < _
  split
  ·exact hsl
  ·exact h.V x
 ·show (if ((10 : Int), s', i') = (10, s, i) then dS f o else σ.μ.V (10, s', i')) ≠ 0 → (if ((10 : Int), s', i') = (10, s, i) then dS f o else σ.μ.V (10, s', i')) % _ < _
  split
  ·intro _
   rw [JK (by omega)];exact ho
  ·exact h.slot s' i'
 ·show (if ((12 : Int), (o' : Int), (0 : Int)) = (10, s, i) then dS f o else σ.μ.V (12, o', 0)) ≤ _
  rw [if_neg (by simp)];exact h.head o'
theorem SI.make {σ : bd} {k : Nat} (h : SI σ k) (who : Int) (o : Ob) : SI (σ.make who o) (k + 3) := by
 obtain ⟨c, N, E, pts, V, obs, cells, slot, head⟩ := h;obtain ⟨q1, q2, q3⟩ := t3 o.most
 have hlen : (σ.make who o).obs.length = σ.obs.length + 1 := by simp [bd.make]
 refine ⟨c, by simp [bd.make]; omega, by simp [bd.make]; omega, by simp [bd.make]; omega, V, by rw [hlen]; omega, fun o' ho2 => ?_, fun s i hv => ?_, fun o' => ?_⟩
 ·rw [hlen] at ho2
  unfold aC;show 1 ≤ ((((σ.obs ++ [_])[o']?).map _).getD []).length ∧ ((((σ.obs ++ [_])[o']?).map _).getD []).length < 1000
  by_cases e : o' < σ.obs.length
  ·rw [List.getElem?_append_left e]
   exact cells o' e
  ·rw [show o' = σ.obs.length from by omega, List.getElem?_append_right (bA _), Nat.sub_self]
   show 1 ≤ (List.replicate (eI o.most) Nh).length ∧ (List.replicate (eI o.most) Nh).length < 1000;rw [List.length_replicate];omega
 ·rw [hlen]
  have := slot s i hv;show σ.μ.V (10, s, i) % 4294967296 < _;omega
 ·have := head o'
  show σ.μ.V (12, o', 0) ≤ _;omega
structure KeptR (σ : bd) (t : Tk) (r : bd × Tk × Bool) (k : Nat) : Prop where
 si : SI r.1 (k + 3)
 c : r.1.c = σ.c
 obs : σ.obs.length ≤ r.1.obs.length
 ok : r.2.2 = false → mL r.1 r.2.1
 x : r.2.1.x = t.x
 who : r.2.1.who = t.who
section
variable {σ : bd} {t : Tk} {k : Nat}
theorem IZ (h : SI σ k) (T : mL σ t) (hat : t.at' < 4) (hx : uv t.x = none) : KeptR σ t (fK σ t) k := by
 have hs : SI (lQ σ t) (k + 3) := (h.swp t.who (8, t.s, 0) 0 1 (by omega) (by simp) (by simp)).mono (by omega)
 by_cases hw : σ.μ.V (8, t.s, 0) = 0
 ·have e : fK σ t = (lQ σ t, { t with at' := 3 }, false) := by unfold fK; rw [if_pos hw]
  rw [e];exact ⟨hs, rfl, bA _, fun _ => ⟨T.s, fun _ => T.i hat, fun _ => hx, .inr (.inr (.inl rfl)), by simp, by simp, T.w⟩, rfl, rfl⟩
 ·have e : fK σ t = (lQ σ t, { t with at' := 2 }, false) := by unfold fK; rw [if_neg hw]
  rw [e];exact ⟨hs, rfl, bA _, fun _ => ⟨T.s, fun _ => T.i hat, fun _ => hx, .inr (.inl rfl), by simp, by simp, T.w⟩, rfl, rfl⟩
theorem Qg (h : SI σ k) : SI (i3 σ t) (k + 3) := ((h.acc t.who 2 (8, t.s, 0)).put (8, t.s, 0) 0 (by omega) (by simp) (.inl (by simp))).mono (by omega)
theorem Uf (h : SI σ k) (T : mL σ t) (now : Int) (hat : t.at' = 3) : KeptR σ t (aA σ t now) k := by
 have hc := bQ.1 h.c;have hx : uv t.x = none := T.x (by omega);have hi := T.i (by omega);have ha : SI (aZ σ t) (k + 2) := h.acc t.who 1 (10, t.s, (t.i : Int));have hn : ∀ code, SI ((aZ σ t).note now t.who code) (k + 3) := fun code => ha.note now t.who code
 by_cases hfd : (aD σ t).found = true
 ·by_cases ho : t.x.op = 1
  ·have e : aA σ t now = ((aZ σ t).note now t.who 6, { aD σ t with at' := 6, code := 6 }, false) := by simp only [aA, hat]; rw [if_pos hfd, if_pos ho]
   rw [e];exact ⟨hn 6, rfl, bA _, fun _ => ⟨T.s, by simp, fun _ => hx, .inr (.inr (.inr (.inl ⟨by simp, by simp⟩))), by simp, fun hh => by simp [aD, ho] at hh, T.w⟩, rfl, rfl⟩
  ·have e : aA σ t now = (aZ σ t, { aD σ t with at' := 4 }, false) := by simp only [aA, hat]; rw [if_pos hfd, if_neg ho]
   have hob : (aD σ t).obj < σ.obs.length := by
    show (if (aD σ t).found = true then σ.μ.V (10, t.s, (t.i : Int)) % 4294967296 else t.obj) < _;rw [if_pos hfd];refine h.slot t.s t.i fun h0 => ?_;have : ss (σ.μ.V (10, t.s, (t.i : Int))) t.x.flow = true := hfd;rw [h0] at this;cases this
   rw [e];exact ⟨ha.mono (by omega), rfl, bA _, fun _ => ⟨T.s, by simp, fun _ => hx, .inr (.inr (.inr (.inl ⟨by simp, by simp⟩))), fun _ hh => absurd hh ho, fun _ => hob, T.w⟩, rfl, rfl⟩
 ·have hli : (aD σ t).i = t.i + 1 := by
   show (if (aD σ t).found = true then t.i else t.i + 1) = _;rw [if_neg hfd]
  by_cases hla : cD σ (aD σ t) = true
  ·by_cases ho : t.x.op = 1
   ·by_cases hm : (aD σ t).mark < 0
    ·have e : aA σ t now = ((aZ σ t).note now t.who 7, { aD σ t with at' := 6, code := 7 }, false) := by simp only [aA, hat]; rw [if_neg hfd, if_pos hla, if_pos ho, if_pos hm]
     rw [e];exact ⟨hn 7, rfl, bA _, fun _ => ⟨T.s, by simp, fun _ => hx, .inr (.inr (.inr (.inl ⟨by simp, by simp⟩))), by simp, fun hh => by simp [aD, ho] at hh, T.w⟩, rfl, rfl⟩
    ·have e : aA σ t now = (aZ σ t, { aD σ t with at' := 4 }, false) := by simp only [aA, hat]; rw [if_neg hfd, if_pos hla, if_pos ho, if_neg hm]
     rw [e];exact ⟨ha.mono (by omega), rfl, bA _, fun _ => ⟨T.s, by simp, fun _ => hx, .inr (.inr (.inr (.inl ⟨by simp, by simp⟩))), fun _ _ => by show 0 ≤ (aD σ t).mark; omega, fun hh => by simp [aD, ho] at hh, T.w⟩, rfl, rfl⟩
   ·have e : aA σ t now = ((aZ σ t).note now t.who 5, { aD σ t with at' := 10, code := 5 }, false) := by simp only [aA, hat]; rw [if_neg hfd, if_pos hla, if_neg ho]
    rw [e];exact ⟨hn 5, rfl, bA _, fun _ => ⟨T.s, by simp, fun _ => hx, .inr (.inr (.inr (.inr ⟨ho, by simp, by simp⟩))), by simp, by simp, T.w⟩, rfl, rfl⟩
  ·have e : aA σ t now = (aZ σ t, aD σ t, false) := by simp only [aA, hat]; rw [if_neg hfd, if_neg hla]
   have hil : ((aD σ t).i : Int) < σ.c.sl := by
    have hla2 : cD σ (aD σ t) = decide (σ.c.sl ≤ ((aD σ t).i : Int)) := rfl;rw [hla2] at hla;have := of_decide_eq_false (by simpa using hla : decide (σ.c.sl ≤ ((aD σ t).i : Int)) = false);omega
   have hat' : (aD σ t).at' = 3 := hat;rw [e];exact ⟨ha.mono (by omega), rfl, bA _, fun _ => ⟨T.s, fun _ => hil, fun _ => hx, .inr (.inr (.inl hat')), by show (aD σ t).at' = 4 ∨ (aD σ t).at' = 5 → _; omega, by show (aD σ t).at' = 5 ∧ _ ∨ 4 ≤ (aD σ t).at' ∧ _ → _; omega, T.w⟩, rfl, rfl⟩
theorem G5 (now : Int) (hk : k < 300000) (h : SI σ k) (T : mL σ t) : KeptR σ t (aA σ t now) k := by
 rcases T.ats with hat | hat | hat | hat | hat
 ·cases hx : uv t.x with
  | some e =>
   have hs : aA σ t now = (σ.note now t.who e, { t with code := e }, true) := by simp only [aA, hat, hx]
   rw [hs];exact ⟨(h.note now t.who e).mono (by omega), rfl, bA _, (fun h => by cases h), rfl, rfl⟩
  | none =>
   have hs : aA σ t now = fK σ t := by simp only [aA, hat, hx]
   rw [hs];exact IZ h T (by omega) hx
 ·have hs : aA σ t now = fK σ t := by simp only [aA, hat]
  rw [hs];exact IZ h T (by omega) (T.x (by omega))
 ·exact Uf h T now hat
 all_goals
  have hx : uv t.x = none := T.x (by omega);have hx2 := yK hx
  have fin : aA σ t now = (i3 σ t, t, true) → KeptR σ t (aA σ t now) k := fun hs => by
   rw [hs];exact ⟨Qg h, rfl, bA _, (fun h => by cases h), rfl, rfl⟩
  by_cases ho : t.x.op = 1
  ·by_cases h4 : t.at' = 4
   ·have hst : aA σ t now = (σ.make t.who (obR σ t), { t with obj := σ.obs.length, at' := 5 }, false) := by rw [mn σ t now ho (by omega)]; simp only [GH, h4]
    rw [hst];exact ⟨h.make t.who (obR σ t), rfl, by simp [bd.make], fun _ => ⟨T.s, by simp, fun _ => hx, .inr (.inr (.inr (.inl ⟨by simp, by simp⟩))), fun _ _ => T.mark (.inl h4) ho, fun _ => by simp [bd.make], T.w⟩, rfl, rfl⟩
   by_cases h5 : t.at' = 5
   ·have hst : aA σ t now = ((σ.mem ((σ.μ.acc t.who 2 (10, t.s, t.mark)).put (10, t.s, t.mark) (dS t.x.flow t.obj))).note now t.who 0, { t with at' := 6, code := 0 }, false) := by rw [mn σ t now ho (by omega)]; simp only [GH, h5]
    rw [hst];have hob := T.obj (.inl ⟨h5, ho⟩);exact ⟨((h.acc t.who 2 (10, t.s, t.mark)).slotput t.s t.mark t.x.flow t.obj hx2.1 hob (by omega)).note now t.who 0, rfl, bA _, fun _ => ⟨T.s, by simp, fun _ => hx, .inr (.inr (.inr (.inl ⟨by simp, by simp⟩))), by simp, fun hh => by simp [ho] at hh, T.w⟩, rfl, rfl⟩
   have h6 : t.at' = 6 := by omega
   exact fin (by rw [mn σ t now ho (by omega)]; simp only [GH, h6])
  ·have hm : ∀ {u : Tk}, u.x = t.x → (u.at' = 4 ∨ u.at' = 5 → u.x.op = 1 → 0 ≤ u.mark) := fun e _ hh => absurd (by rw [← e]; exact hh) ho
   by_cases h4 : t.at' = 4
   ·have hob := T.obj (.inr ⟨by omega, by omega, ho⟩)
    have hS : SI (dg σ t) (k + 3) := (h.acc t.who 1 (11, (t.obj : Int), 0)).mono (by omega)
    by_cases hw : bC (σ.μ.V (11, (t.obj : Int), 0)) = 0
    ·have hst : aA σ t now = (dg σ t, { t with w := σ.μ.V (11, (t.obj : Int), 0), at' := 8 }, false) := by rw [bU σ t now ho (by omega)]; simp only [gj, h4]; rw [if_pos hw]
     rw [hst];exact ⟨hS, rfl, bA _, fun _ => ⟨T.s, by simp, fun _ => hx, .inr (.inr (.inr (.inr ⟨ho, by simp, by simp⟩))), hm rfl, fun _ => hob, h.V _⟩, rfl, rfl⟩
    ·have hst : aA σ t now = (dg σ t, { t with w := σ.μ.V (11, (t.obj : Int), 0), at' := 5 }, false) := by rw [bU σ t now ho (by omega)]; simp only [gj, h4]; rw [if_neg hw]
     rw [hst];exact ⟨hS, rfl, bA _, fun _ => ⟨T.s, by simp, fun _ => hx, .inr (.inr (.inr (.inl ⟨by simp, by simp⟩))), hm rfl, fun _ => hob, h.V _⟩, rfl, rfl⟩
   by_cases h5 : t.at' = 5
   ·have hob := T.obj (.inr ⟨by omega, by omega, ho⟩)
    have hS : SI (eK σ t) (k + 3) := (h.acc t.who 1 (2, 0, 0)).mono (by omega)
    by_cases hw : σ.μ.V (2, 0, 0) % 2 = 1
    ·have hst : aA σ t now = (eK σ t, { t with q := σ.μ.V (2, 0, 0), at' := 4 }, false) := by rw [bU σ t now ho (by omega)]; simp only [gj, h5]; rw [if_pos hw]
     rw [hst];exact ⟨hS, rfl, bA _, fun _ => ⟨T.s, by simp, fun _ => hx, .inr (.inr (.inr (.inl ⟨by simp, by simp⟩))), hm rfl, fun _ => hob, T.w⟩, rfl, rfl⟩
    ·have hst : aA σ t now = (eK σ t, { t with q := σ.μ.V (2, 0, 0), at' := 6 }, false) := by rw [bU σ t now ho (by omega)]; simp only [gj, h5]; rw [if_neg hw]
     rw [hst];exact ⟨hS, rfl, bA _, fun _ => ⟨T.s, by simp, fun _ => hx, .inr (.inr (.inr (.inl ⟨by simp, by simp⟩))), hm rfl, fun _ => hob, T.w⟩, rfl, rfl⟩
   by_cases h6 : t.at' = 6
   ·have hob := T.obj (.inr ⟨by omega, by omega, ho⟩)
    have hS : SI (dg σ t) (k + 3) := (h.acc t.who 1 (11, (t.obj : Int), 0)).mono (by omega)
    by_cases hw : bC (σ.μ.V (11, (t.obj : Int), 0)) = 0
    ·have hst : aA σ t now = (dg σ t, { t with w := σ.μ.V (11, (t.obj : Int), 0), mark := now, at' := 8 }, false) := by rw [bU σ t now ho (by omega)]; simp only [gj, h6]; rw [if_pos hw]
     rw [hst];exact ⟨hS, rfl, bA _, fun _ => ⟨T.s, by simp, fun _ => hx, .inr (.inr (.inr (.inr ⟨ho, by simp, by simp⟩))), hm rfl, fun _ => hob, h.V _⟩, rfl, rfl⟩
    ·have hst : aA σ t now = (dg σ t, { t with w := σ.μ.V (11, (t.obj : Int), 0), mark := now, at' := 7 }, false) := by rw [bU σ t now ho (by omega)]; simp only [gj, h6]; rw [if_neg hw]
     rw [hst];exact ⟨hS, rfl, bA _, fun _ => ⟨T.s, by simp, fun _ => hx, .inr (.inr (.inr (.inr ⟨ho, by simp, by simp⟩))), hm rfl, fun _ => hob, h.V _⟩, rfl, rfl⟩
   by_cases h7 : t.at' = 7
   ·have hob := T.obj (.inr ⟨by omega, by omega, ho⟩)
    have hS : SI (eK σ t) (k + 2) := h.acc t.who 1 (2, 0, 0)
    by_cases hw : σ.μ.V (2, 0, 0) = t.q
    ·have hst : aA σ t now = ((eK σ t).note t.mark t.who 8, { t with at' := 10, code := 8 }, false) := by rw [bU σ t now ho (by omega)]; simp only [gj, h7]; rw [if_pos hw]
     rw [hst];exact ⟨hS.note t.mark t.who 8, rfl, bA _, fun _ => ⟨T.s, by simp, fun _ => hx, .inr (.inr (.inr (.inr ⟨ho, by simp, by simp⟩))), hm rfl, by simp, T.w⟩, rfl, rfl⟩
    ·have hst : aA σ t now = (eK σ t, { t with at' := 4 }, false) := by rw [bU σ t now ho (by omega)]; simp only [gj, h7]; rw [if_neg hw]
     rw [hst];exact ⟨hS.mono (by omega), rfl, bA _, fun _ => ⟨T.s, by simp, fun _ => hx, .inr (.inr (.inr (.inl ⟨by simp, by simp⟩))), hm rfl, fun _ => hob, T.w⟩, rfl, rfl⟩
   by_cases h8 : t.at' = 8
   ·have hob := T.obj (.inr ⟨by omega, by omega, ho⟩)
    have hS : SI (σ.mem (σ.μ.turn t.who t.obj t.w (aW t.w 2))) (k + 2) := h.turn t.who t.obj t.w 2;have hc : (σ.mem (σ.μ.turn t.who t.obj t.w (aW t.w 2))).c = σ.c := rfl
    cases hw : fZ σ.μ t.obj t.w (aW t.w 2) with
    | true =>
     have hst : aA σ t now = ((σ.mem (σ.μ.turn t.who t.obj t.w (aW t.w 2))).note now t.who 0, { t with at' := 9, code := 0 }, false) := by rw [bU σ t now ho (by omega)]; simp only [gj, h8]; rw [if_pos hw]
     rw [hst];exact ⟨hS.note now t.who 0, rfl, bA _, fun _ => ⟨T.s, by simp, fun _ => hx, .inr (.inr (.inr (.inr ⟨ho, by simp, by simp⟩))), hm rfl, fun _ => hob, T.w⟩, rfl, rfl⟩
    | false =>
     have hst : aA σ t now = (σ.mem (σ.μ.turn t.who t.obj t.w (aW t.w 2)), { t with at' := 4 }, false) := by rw [bU σ t now ho (by omega)]; simp only [gj, h8]; rw [if_neg (by rw [hw]; simp)]
     rw [hst];exact ⟨hS.mono (by omega), rfl, bA _, fun _ => ⟨T.s, by simp, fun _ => hx, .inr (.inr (.inr (.inl ⟨by simp, by simp⟩))), hm rfl, fun _ => hob, T.w⟩, rfl, rfl⟩
   by_cases h9 : t.at' = 9
   ·have hst : aA σ t now = (σ.mem ((σ.μ.acc t.who 2 (10, t.s, (t.i : Int))).put (10, t.s, (t.i : Int)) 0), { t with at' := 10 }, false) := by rw [bU σ t now ho (by omega)]; simp only [gj, h9]
    rw [hst];exact ⟨((h.acc t.who 2 (10, t.s, (t.i : Int))).clear t.s t.i).mono (by omega), rfl, bA _, fun _ => ⟨T.s, by simp, fun _ => hx, .inr (.inr (.inr (.inr ⟨ho, by simp, by simp⟩))), hm rfl, by simp, T.w⟩, rfl, rfl⟩
   have h10 : t.at' = 10 := by omega
   exact fin (by rw [bU σ t now ho (by omega)]; simp only [gj, h10])
end
theorem mL.new {σ : bd} (hc : da σ.c = true) (who : Int) (x : Cl) : mL σ (Tk.newR σ.c who x) := by
 have := bQ.1 hc;exact ⟨rfl, fun _ => by simp; omega, by simp, .inl rfl, by simp, by simp, by simp⟩
theorem mL.mono {σ σ' : bd} {t : Tk} (T : mL σ t) (hc : σ'.c = σ.c) (ho : σ.obs.length ≤ σ'.obs.length) : mL σ' t :=
 ⟨by rw [hc]; exact T.s, by rw [hc]; exact T.i, T.x, T.ats, T.mark, fun h => Nat.lt_of_lt_of_le (T.obj h) ho, T.w⟩
theorem ir.mono' {σ σ' : bd} {t : Tk} (T : ir σ t) (hc : σ'.c = σ.c) (ho : σ.obs.length ≤ σ'.obs.length) : ir σ' t :=
 ⟨fun h => Nat.lt_of_lt_of_le (T.obj h) ho, by rw [hc]; exact T.s, by rw [hc]; exact T.i, T.w, T.c5, T.c0, T.ats⟩
theorem Yq (σ : bd) (t : Tk) (now : Int) : (aq σ t now).2.1.x = t.x := by
 unfold aq;dsimp only
 repeat' split
 all_goals rfl
theorem ad6 (σ : bd) (t : Tk) (now : Int) : (aq σ t now).1.obs.length = σ.obs.length := by
 unfold aq;dsimp only
 repeat' split
 all_goals first | rfl | exact jC σ t
def jY (σ : bd) (t : Tk) (now : Int) : bd × Tk × Bool := if t.x.op = 3 then aq σ t now else aA σ t now
def aT (e p : Nat) (rp : List Nat) (t : Tk) : SP := if t.x.op = 3 then eT e p rp t else rT e p rp t
def zT (xb x : Nat) (t : Tk) : SP := if t.x.op = 3 then xT xb x t else yT xb x t
def aU (e p : Nat) (rp : List Nat) (r : bd × Tk × Bool) : SP := if r.2.2 = true then emp else aT e p rp r.2.1
def zU (xb x : Nat) (r : bd × Tk × Bool) : SP := if r.2.1.x.op = 3 then xU xb x r else yU xb x r
structure QD (σ : bd) (t : Tk) : Prop where
 e : t.x.op = 3 → ir σ t
 r : t.x.op ≠ 3 → mL σ t
def Tk.newA (c : iF) (who : Int) (x : Cl) : Tk := if x.op = 3 then Tk.new c who x else Tk.newR c who x
abbrev tkV (op : Int) (e xb : Nat) : List Value := [if op = 3 then vp e else .pointer none, if op = 3 then .pointer none else vp e, vp xb]
theorem aoH {op : Int} {e xb : Nat} (ho : op = 3) : tkV op e xb = [vp e, .pointer none, vp xb] := by simp [tkV, ho]
theorem aoI {op : Int} {e xb : Nat} (ho : op ≠ 3) : tkV op e xb = [.pointer none, vp e, vp xb] := by simp [tkV, ho]
structure KeptA (σ : bd) (t : Tk) (r : bd × Tk × Bool) (k : Nat) : Prop where
 si : SI r.1 (k + 3)
 c : r.1.c = σ.c
 obs : σ.obs.length ≤ r.1.obs.length
 ok : r.2.2 = false → QD r.1 r.2.1
 x : r.2.1.x = t.x
theorem Ur {σ : bd} {t : Tk} {k : Nat} (now : Int) (hk : k < 300000) (h : SI σ k) (T : QD σ t) : KeptA σ t (jY σ t now) k := by
 by_cases ho : t.x.op = 3
 ·rw [show jY σ t now = aq σ t now from if_pos ho]
  have K := aeB now hk h (T.e ho);have hx := Yq σ t now;exact ⟨K.si, K.c, Nat.le_of_eq (ad6 σ t now).symm, fun hf => ⟨fun _ => K.ok hf, fun hn => absurd (by rw [hx]; exact ho) hn⟩, hx⟩
 ·rw [show jY σ t now = aA σ t now from if_neg ho]
  have K := G5 now hk h (T.r ho);exact ⟨K.si, K.c, K.obs, fun hf => ⟨fun hn => absurd (by rw [K.x] at hn; exact hn) ho, fun _ => K.ok hf⟩, K.x⟩
theorem QD.new {σ : bd} (hc : da σ.c = true) (who : Int) (x : Cl) : QD σ (Tk.newA σ.c who x) := by
 by_cases ho : x.op = 3
 ·rw [show Tk.newA σ.c who x = Tk.new σ.c who x from if_pos ho]
  exact ⟨fun _ => ir.new hc who x, fun h => absurd ho h⟩
 ·rw [show Tk.newA σ.c who x = Tk.newR σ.c who x from if_neg ho]
  exact ⟨fun h => absurd h ho, fun _ => mL.new hc who x⟩
theorem QD.mono {σ σ' : bd} {t : Tk} (T : QD σ t) (hc : σ'.c = σ.c) (ho : σ.obs.length ≤ σ'.obs.length) : QD σ' t := ⟨fun h => (T.e h).mono' hc ho, fun h => (T.r h).mono hc ho⟩
theorem au8 (c : iF) (who : Int) (x : Cl) : (Tk.newA c who x).x = x := by unfold Tk.newA; split <;> rfl
theorem XF {l l' : List Nat} (h : l <+: l') {i b : Nat} (e : l[i]? = some b) : l'[i]? = some b := by
 obtain ⟨s, rfl⟩ := h;rw [List.getElem?_append_left (zZ.1 e).1];exact e
theorem apP {e p : Nat} {rp rp' : List Nat} {t : Tk} {R : SP} {H : AH} (hp : rp <+: rp') (h : ac (aT e p rp t * R) H) : ac (aT e p rp' t * R) H := by
 unfold aT at h ⊢
 split
 ·rename_i ho
  rw [if_pos ho] at h;unfold eT at h ⊢;obtain ⟨v, h1⟩ := ac.ex.1 h;rw [aj, ac.pu] at h1;refine ac.ex.2 ⟨v, ?_⟩;rw [aj, ac.pu];exact ⟨fun h7 => by obtain ⟨b, e1, e2⟩ := h1.1 h7; exact ⟨b, XF hp e1, e2⟩, h1.2⟩
 ·rename_i ho
  rw [if_neg ho] at h;unfold rT at h ⊢;obtain ⟨k, h1⟩ := ac.ex.1 h;rw [aj, ac.pu] at h1;refine ac.ex.2 ⟨k, ?_⟩;rw [aj, ac.pu];obtain ⟨⟨q1, q2, q3⟩, h2⟩ := h1;refine ⟨⟨q1, q2, fun hn => ?_⟩, h2⟩;obtain ⟨a1, a2⟩ := q3 hn;exact ⟨fun g1 g2 => by obtain ⟨c1, b, e1, e2⟩ := a1 g1 g2; exact ⟨c1, b, XF hp e1, e2⟩, a2⟩
theorem aoJ (xb x : Nat) (t : Tk) (C : Xk → Prop) (d : Bool) (c : Int) (hC : d = true → ∀ k, C k → k.code = c) (c' : Int) (hc' : c' = if d = true then c else 0) :
 Sp qy [vp xb, vb d] (ex fun k : Xk => pu (C k) * xB xb x t k) (fun _ : Unit => .agg (ip c').toArray) (fun _ => ex fun k : Xk => pu (C k) * xB xb x t k) := by
 subst hc';refine aK fun R H h => ?_;obtain ⟨k, h1⟩ := ac.ex.1 h;rw [aj, ac.pu] at h1;obtain ⟨hk, h1⟩ := h1;refine bj (fun r => OS _ _ H) ?_;refine bo h1 fun b H2 h2 => ?_;have back : ∀ {H' : AH}, ac (xB xb x t k * R) H' → ac ((ex fun k : Xk => pu (C k) * xB xb x t k) * R) H' := fun h => ac.ex.2 ⟨k, by rw [aj]; exact ac.pu.2 ⟨hk, h⟩⟩;cases d
 ·refine gs ?_
  refine jq ?_;refine eM h2 rfl rfl fun H3 h3 => ?_;refine aR h3 ?_;exact am ⟨(), rfl, back h3.to⟩
 ·refine gs ?_
  have hk2 := hC rfl k hk;refine Hm h2 ae ?_;rw [hk2];refine eM h2 rfl rfl fun H3 h3 => ?_;refine aR h3 ?_;exact am ⟨(), rfl, back h3.to⟩
theorem av1 (xb x : Nat) (r : bd × Tk × Bool) : Sp qy [vp xb, vb r.2.2] (zU xb x r) (fun _ : Unit => .agg (ip (if r.2.2 = true then r.2.1.code else 0)).toArray) (fun _ => zU xb x r) := by
 unfold zU
 split
 ·exact aoJ xb x r.2.1 _ r.2.2 r.2.1.code (fun hd k hk => by rw [if_pos hd] at hk; exact hk) _ rfl
 ·exact aoJ xb x r.2.1 _ r.2.2 r.2.1.code (fun hd k hk => by rw [if_pos hd] at hk; exact hk) _ rfl
theorem auN (d : Bool) : ai .bool .eql (vb d) (vb d) = some (vb true) := by cases d <;> rfl
section
variable (p x : Nat) (rp : List Nat)
theorem JQ {pb b6 b9 tb xb : Nat} {x0 x1 : Value} {c : Int} {σ : bd} {r : bd × Tk × Bool} {x7 x8 : Value} {R : SP} {H : AH} (hc : c = if r.2.2 = true then r.2.1.code else 0)
 (h : ac (blk tb (.cells false [x0, x1, vp xb]) * (blk pb (.cells false [vp p, vp x]) * (blk b6 (.cells false [vi 0, .slice none 0 0, vi 0, vw 0]) * (blk b9 (.cells false (ip c)) * (zU xb x r * (aM p rp σ * (aJ x σ * R))))))) H) :
 wp (hF (vp tb) (vp pb) (vp b6) x7 x8 (vp b9) (vb r.2.2) (vb r.2.2) H) fun v' H' => v' = .tuple #[.agg (ip c).toArray, vb r.2.2, vb true] ∧ ac (zU xb x r * (aM p rp σ * (aJ x σ * R))) H' := by
 refine ah (uk ..) ?_;refine aR h ?_;refine aa (auN _) ?_;refine gs ?_;refine aR h ?_;refine gs ?_;refine ak h aB rfl ?_;refine gs ?_;refine af h (av1 xb x r) fun _ H1 h1 => ?_;rw [← hc];refine dB h1 h rfl ?_;refine dB h1 h rfl ?_;refine gs ?_;refine af h1 (ON c) fun _ H2 h2 => ?_;refine dB h2 h rfl ?_;refine gs ?_;refine ak h2 aB rfl ?_;refine gs ?_;obtain ⟨g, hrp, hg, k1⟩ := dh (p := p) (rp := rp) (σ := σ) (R := aJ x σ * (blk b9 (.cells false (ip c)) * (blk b6 (.cells false [vi 0, .slice none 0 0, vi 0, vw 0]) * (blk pb (.cells false [vp p, vp x]) * (zU xb x r * R))))) (H := H2) h2.to;obtain ⟨gx, hgx, l1⟩ := dz (p := x) (σ := σ) (R := az p g σ * (blk b9 (.cells false (ip c)) * (blk b6 (.cells false [vi 0, .slice none 0 0, vi 0, vw 0]) * (blk pb (.cells false [vp p, vp x]) * (zU xb x r * R))))) (H := H2) k1.to;obtain ⟨kv, vv, ev, Z, m1, back⟩ := Jc (x := x) (g := gx) (σ := σ) (R := az p g σ * (blk b9 (.cells false (ip c)) * (blk b6 (.cells false [vi 0, .slice none 0 0, vi 0, vw 0]) * (blk pb (.cells false [vp p, vp x]) * (zU xb x r * R))))) (H := H2) l1.to;refine gs ?_;refine ak m1 ae rfl ?_;refine gs ?_;have bl : Sp kO [vp g.m] (az p g σ) (fun _ : Unit => vi σ.μ.E.length) (fun _ => az p g σ) := UJ (p := p) (g := g) (σ := σ) (arM g.m σ.μ);refine af m1 bl fun _ H3 m2 => ?_;refine dB m2 h rfl ?_;refine lC ?_;refine bD aB ?_;refine gs ?_;refine aN m2 rfl ?_;refine aH m1 m2 (by rfl) ?_;refine lC ?_;refine bD ae ?_;refine gs ?_;refine aN m2 rfl ?_;refine aH m1 m2 (by rfl) ?_;refine lC ?_;refine bD ae ?_;refine gs ?_;refine aN m2 rfl ?_;refine aH m1 m2 (by rfl) ?_;refine gs ?_;refine i4 (s := ev) (l := σ.μ.E) m2 ?_;refine JU ?_;refine gs ?_;refine aa (bi rfl) ?_;refine gs ?_;refine eM m2 rfl rfl fun H4 m4 => ?_;refine aH m4 m2 (by rfl) ?_;refine aH m4 m2 (by rfl) ?_;refine aH m4 m2 (by rfl) ?_;refine JU ?_;refine aR m4 ?_;have m3 := back (R' := az p g σ * (zU xb x r * R)) (H' := H4) m4.to;have n4 := cH (p := x) (σ := σ) (R := az p g σ * (zU xb x r * R)) gx hgx m3;have n5 := bz (p := p) (rp := rp) (σ := σ) (R := aJ x σ * (zU xb x r * R)) (H := H4) g hrp hg n4.to;exact am ⟨rfl, n5.to⟩
theorem aeK (e xb : Nat) (σ : bd) (t : Tk) (now : Int) (K : Nat) (S : SI σ K) (hK : K < 290000) (T : QD σ t) :
 Sp lH [.agg (tkV t.x.op e xb).toArray, .agg [vp p, vp x].toArray, vi now] (aT e p rp t * (aM p rp σ * (zT xb x t * aJ x σ)))
  (fun _ : List Nat => .tuple #[.agg (ip (if (jY σ t now).2.2 = true then (jY σ t now).2.1.code else 0)).toArray, vb (jY σ t now).2.2, vb true])
  (fun rp' => pu (rp <+: rp') * (aU e p rp' (jY σ t now) * (zU xb x (jY σ t now) * (aM p rp' (jY σ t now).1 * aJ x (jY σ t now).1)))) := by
 refine aK fun R H h => ?_
 by_cases ho : t.x.op = 3
 ·have hA : jY σ t now = aq σ t now := if_pos ho
  have hx3 : (aq σ t now).2.1.x.op = 3 := by rw [Yq]; exact ho
  rw [hA, aoH ho];refine bj (fun r => pD _ _ _ H) ?_;refine aS (l := [vp e, .pointer none, vp xb]) h fun tb H1 h1 => ?_;refine aS (l := [vp p, vp x]) h1 fun pb H2 h2 => ?_;refine bo h2 fun b6 H3 h3 => ?_;refine bo h3 fun b9 H4 h4 => ?_;refine ah (lP ..) ?_;refine ak h4 aB rfl ?_;refine aa (v := vb true) rfl ?_;refine gs ?_;refine ak h4 aB rfl ?_
  have h5 : ac (eP e p rp σ t * (xP xb x σ t * (blk tb (.cells false [vp e, .pointer none, vp xb]) * (blk pb (.cells false [vp p, vp x]) * (blk b6 (.cells false [vi 0, .slice none 0 0, vi 0, vw 0]) * (blk b9 (.cells false [vi 0, .slice none 0 0, vi 0, vw 0]) * R)))))) H4 := by
   rw [agF, axJ];unfold aT zT at h4;rw [if_pos ho, if_pos ho] at h4;exact h4.to
  refine af h5 (agH e p rp σ t now (S.ok (by omega)) (T.e ho)) fun _ H5 h6 => ?_;refine aa (v := .agg (ip (if (aq σ t now).2.2 = true then (aq σ t now).2.1.code else 0)).toArray) rfl ?_;refine aa (v := vb (aq σ t now).2.2) rfl ?_;refine eM h6 rfl rfl fun H7 h7 => ?_;refine ak h7 aB rfl ?_;refine af h7 (aeY xb x σ t now (S.ok (by omega)) (T.e ho)) fun _ H8 h8 => ?_;rw [axK, awW] at h8;refine qL ?_ (JQ p x rp (xb := xb) (x0 := vp e) (x1 := .pointer none) (pb := pb) (tb := tb) (b6 := b6) (b9 := b9) (σ := (aq σ t now).1) (r := aq σ t now) (R := eU e p rp (aq σ t now) * R) (H := H8) rfl (by unfold zU; rw [if_pos hx3]; exact h8.to))
  rintro v' H' ⟨rfl, h9⟩
  refine ⟨rp, rfl, ?_⟩;rw [aj, ac.pu];refine ⟨lm _, ?_⟩
  have ea : aU e p rp (aq σ t now) = eU e p rp (aq σ t now) := by
   unfold aU eU aT;rw [if_pos hx3]
  rw [ea];exact h9.to
 ·have hA : jY σ t now = aA σ t now := if_neg ho
  have KR := G5 now (by omega) S (T.r ho)
  have hx3 : ¬ (aA σ t now).2.1.x.op = 3 := by rw [KR.x]; exact ho
  rw [hA, aoI ho];refine bj (fun r => pD _ _ _ H) ?_;refine aS (l := [.pointer none, vp e, vp xb]) h fun tb H1 h1 => ?_;refine aS (l := [vp p, vp x]) h1 fun pb H2 h2 => ?_;refine bo h2 fun b6 H3 h3 => ?_;refine bo h3 fun b9 H4 h4 => ?_;refine ah (lP ..) ?_;refine ak h4 aB rfl ?_;refine aa (v := vb false) rfl ?_;refine gs ?_;refine ak h4 aB rfl ?_;refine aa (v := vb true) rfl ?_;refine gs ?_;refine ak h4 aB rfl ?_
  have h5 : ac (rT e p rp t * (aM p rp σ * (yT xb x t * (aJ x σ * (blk tb (.cells false [.pointer none, vp e, vp xb]) * (blk pb (.cells false [vp p, vp x]) * (blk b6 (.cells false [vi 0, .slice none 0 0, vi 0, vw 0]) * (blk b9 (.cells false [vi 0, .slice none 0 0, vi 0, vw 0]) * R)))))))) H4 := by
   unfold aT zT at h4;rw [if_neg ho, if_neg ho] at h4;exact h4.to
  refine af h5 (am9 e p rp σ t now (S.ok (by omega)) (T.r ho)) fun rp' H5 h6 => ?_;unfold rQ at h6;rw [aj, ac.pu] at h6;obtain ⟨hpre, h6⟩ := h6;refine aa (v := .agg (ip (if (aA σ t now).2.2 = true then (aA σ t now).2.1.code else 0)).toArray) rfl ?_;refine aa (v := vb (aA σ t now).2.2) rfl ?_;refine eM h6 rfl rfl fun H7 h7 => ?_;refine ak h7 aB rfl ?_;refine af h7 (ae1 xb x σ t now (S.ok (by omega)) (T.r ho)) fun _ H8 h8 => ?_;refine qL ?_ (JQ p x rp' (xb := xb) (x0 := .pointer none) (x1 := vp e) (pb := pb) (tb := tb) (b6 := b6) (b9 := b9) (σ := (aA σ t now).1) (r := aA σ t now) (R := rU e p rp' (aA σ t now) * R) (H := H8) rfl (by unfold zU; rw [if_neg hx3]; exact h8.to))
  rintro v' H' ⟨rfl, h9⟩
  refine ⟨rp', rfl, ?_⟩;rw [aj, ac.pu];refine ⟨hpre, ?_⟩
  have ea : aU e p rp' (aA σ t now) = rU e p rp' (aA σ t now) := by
   unfold aU rU aT;rw [if_neg hx3]
  rw [ea];exact h9.to
theorem YV (σ : bd) (hc : da σ.c = true) (hN : σ.μ.N < 1000000) (who place : Int) (c : Cl) :
 Sp sI [.agg [vp p, vp x].toArray, vi who, vi place, .agg (Cl.cells c).toArray] (aM p rp σ * aJ x σ) (fun g : Nat × Nat => .agg (tkV c.op g.1 g.2).toArray)
  (fun g => aT g.1 p rp (Tk.newA σ.c who c) * (zT g.2 x (Tk.newA σ.c who c) * (aM p rp (σ.begin who place) * aJ x (σ.begin who place)))) := by
 refine aY (LU _ _ _ _) fun R H h => ?_;refine aS (l := [vp p, vp x]) h fun pb H1 h1 => ?_;refine aS h1 fun cb H2 h2 => ?_;refine bo h2 fun b3 H3 h3 => ?_;refine aR h3 ?_;refine af h3 (S6 p x rp σ who place hN) fun _ H4 h4 => ?_;refine ak h4 aB rfl ?_;refine aR h4 ?_;have hcb : da (σ.begin who place).c = true := hc
 by_cases ho : c.op = 3
 ·refine af h4 (PA x (σ.begin who place) who c 0) fun xb H5 h5 => ?_
  refine jq ?_;refine bo h5 fun b5 H6 h6 => ?_;refine eM h6 rfl rfl fun H7 h7 => ?_;refine ah (qT ..) ?_;refine ak h7 aB rfl ?_;refine aa (bi ho) ?_;refine gs ?_;refine ak h7 aB rfl ?_;refine aR h7 ?_;refine af h7 (agG p rp (σ.begin who place) hcb who c) fun e H8 h8 => ?_;refine bg h8 aB rfl rfl fun H9 h9 => ?_;refine ah (qU ..) ?_;refine aR h9 ?_;refine eM h9 rfl rfl fun HA hA => ?_;refine aR hA ?_;refine am ⟨(e, xb), by rw [aoH ho], ?_⟩;rw [show Tk.newA σ.c who c = Tk.new σ.c who c from if_pos ho];rw [show aT (e, xb).1 p rp (Tk.new σ.c who c) = eT e p rp (Tk.new σ.c who c) from if_pos ho, show zT (e, xb).2 x (Tk.new σ.c who c) = xT xb x (Tk.new σ.c who c) from if_pos ho];exact hA.to
 ·have nt : Sp kQ [vp x, vi who, .agg (Cl.cells c).toArray] emp (fun b : Nat => vp b) (fun b => yT b x (Tk.newR σ.c who c)) := by
   refine aY (s0 _ _ _) fun R H h => ?_;refine aS h fun b H1 h1 => ?_;refine aR h1 ?_;refine jq ?_;refine aS h1 fun xb H2 h2 => ?_;refine am ⟨xb, rfl, ?_⟩;unfold yT;refine ac.ex.2 ⟨⟨0, 0, -1, false, 0, 0, 0, 0, 0, 0, 0⟩, ?_⟩;rw [aj, ac.pu];exact ⟨DH rfl (by simp) ⟨rfl, rfl⟩, h2.to⟩
  refine af h4 nt fun xb H5 h5 => ?_;refine jq ?_;refine bo h5 fun b5 H6 h6 => ?_;refine eM h6 rfl rfl fun H7 h7 => ?_;refine ah (qT ..) ?_;refine ak h7 aB rfl ?_;refine aa (aG ho) ?_;refine gs ?_;refine ak h7 aB rfl ?_;refine aR h7 ?_;refine af h7 (am7 p rp (σ.begin who place) hcb who c) fun e H8 h8 => ?_;refine bg h8 aB rfl rfl fun H9 h9 => ?_;refine ah (qU ..) ?_;refine aR h9 ?_;refine eM h9 rfl rfl fun HA hA => ?_;refine aR hA ?_;refine am ⟨(e, xb), by rw [aoI ho], ?_⟩;rw [show Tk.newA σ.c who c = Tk.newR σ.c who c from if_neg ho];rw [show aT (e, xb).1 p rp (Tk.newR σ.c who c) = rT e p rp (Tk.newR σ.c who c) from if_neg ho, show zT (e, xb).2 x (Tk.newR σ.c who c) = yT xb x (Tk.newR σ.c who c) from if_neg ho];exact hA.to
end
theorem Jd {P : SP} {H : AH} {s : Value} {l : List Int} [hR : Rd P s 1 eF l] (n most : Nat) (hn : 0 < n ∧ n < 1000) (hm : most < 1000) {k : Value × AH → OV} {Q : Value → AH → Prop} (h : ac P H)
 (hk : ∀ (v : Value) (o : List Int) (H' : AH), o.length ≤ most → (∀ y ∈ o, 0 ≤ y ∧ y < n) → ac (ts 1 eF v o * P) H' → wp (k (v, H')) Q) : wp ((FF O8 [s, vi (n : Int), vi (most : Int)] H).bind k) Q := by
 have law : Sp O8 [s, vi (n : Int), vi (most : Int)] P (fun g : Value × List Int => g.1) (fun g => pu (g.2.length ≤ most ∧ ∀ y ∈ g.2, 0 ≤ y ∧ y < n) * (ts 1 eF g.1 g.2 * P)) := by
  refine aY (avB _ _ _) fun R H h => ?_;refine ah (acA ..) ?_;refine ah (acB ..) ?_;have app : ∀ (v : Value) (o : List Int) (x : Int) (H : AH) {kk : Value × AH → OV} {Q : Value → AH → Prop}, o.length < most → ac (ts 1 eF v o * (P * R)) H → (∀ v' H', ac (ts 1 eF v' (o ++ [x]) * (P * R)) H' → wp (kk (v', H')) Q) →
   wp (z5 1 1 [(vi 0)] [(0, vi x)] H fun v25 H26 => (eJ 1 8 v v25 H26).bind kk) Q := by
   intro v o x H kk Q ho hh hk;refine Qi hh fun b H1 h1 => ?_;refine gY (s := v) (l := o) (x : Int) h1 rfl ?_ (by omega) fun a c H2 h2 => ?_
   ·unfold dc; omega
   exact hk _ H2 h2.to
  have snoc : ∀ {o : List Int} {x : Int}, (∀ y ∈ o, 0 ≤ y ∧ y < (n : Int)) → ∀ y ∈ o ++ [dP x n], 0 ≤ y ∧ y < (n : Int) := by
   intro o x hv y hy
   rcases List.mem_append.1 hy with hy | hy
   ·exact hv y hy
   ·rw [List.mem_singleton.1 hy]; exact eC (by omega)
  -- one again and again
  have inner : ∀ (d i j : Nat) (ki : Int) (v : Value) (o : List Int) (H : AH) {Q : Value → AH → Prop}, most - o.length = d → o.length ≤ most → (∀ y ∈ o, 0 ≤ y ∧ y < (n : Int)) → i < l.length → 0 ≤ ki ∧ ki < 40 → j < 1000 + o.length → ac (ts 1 eF v o * (P * R)) H →
   (∀ v' o' H', o.length ≤ o'.length → o'.length ≤ most → (∀ y ∈ o', 0 ≤ y ∧ y < (n : Int)) → ac (ts 1 eF v' o' * (P * R)) H' → wp (Mb s (vi (n : Int)) (vi (most : Int)) (.slice none 0 0) v' (vi ki) (vi (i : Int)) H') Q) →
   wp (Ds s (vi (n : Int)) (vi (most : Int)) (.slice none 0 0) v (vi ki) (vi (i : Int)) (vi (j : Int)) H) Q := by
   intro d
   induction d with
   | zero =>
    intro i j ki v o H Q hd ho hv hil hki hj hh hk;refine ah (Gg ..) ?_;refine jf (s := s) (l := l) (v := vi l[i]) hh hil rfl ?_;refine af hh (cZ l[i] 7 (by omega) (by omega)) fun _ H1 h1 => ?_;have m7 := eC (v := l[i]) (n := 7) (by omega);refine aa (kH (by omega)) ?_;have q3 : 0 ≤ ki.tmod 3 ∧ ki.tmod 3 < 3 := ⟨Int.tmod_nonneg _ hki.1, Int.tmod_lt_of_pos _ (by omega)⟩;have p0 : 0 ≤ dP l[i] 7 * ki.tmod 3 := Int.mul_nonneg m7.1 q3.1;have p1 : dP l[i] 7 * ki.tmod 3 ≤ 7 * 3 := Int.mul_le_mul (by omega) (by omega) q3.1 (by omega);refine aa (j9 (by omega) (by omega)) ?_
    have out : wp (t6 s (vi (n : Int)) (vi (most : Int)) (.slice none 0 0) v (vi ki) (vi (i : Int)) H1) Q := by
     refine ah (yh ..) ?_;exact hk v o H1 (bA _) ho hv h1.to
    by_cases hlt : (j : Int) < dP l[i] 7 * ki.tmod 3
    ·refine aa (bS hlt) ?_
     refine gs ?_;refine i4 (s := v) (l := o) h1 ?_;refine gs ?_;refine aa (bE (by omega)) ?_;refine gs ?_;exact out
    ·refine aa (bE hlt) ?_
     refine gs ?_;exact out
   | succ d ih =>
    intro i j ki v o H Q hd ho hv hil hki hj hh hk;refine ah (Gg ..) ?_;refine jf (s := s) (l := l) (v := vi l[i]) hh hil rfl ?_;refine af hh (cZ l[i] 7 (by omega) (by omega)) fun _ H1 h1 => ?_;have m7 := eC (v := l[i]) (n := 7) (by omega);refine aa (kH (by omega)) ?_;have q3 : 0 ≤ ki.tmod 3 ∧ ki.tmod 3 < 3 := ⟨Int.tmod_nonneg _ hki.1, Int.tmod_lt_of_pos _ (by omega)⟩;have p0 : 0 ≤ dP l[i] 7 * ki.tmod 3 := Int.mul_nonneg m7.1 q3.1;have p1 : dP l[i] 7 * ki.tmod 3 ≤ 7 * 3 := Int.mul_le_mul (by omega) (by omega) q3.1 (by omega);refine aa (j9 (by omega) (by omega)) ?_
    have out : wp (t6 s (vi (n : Int)) (vi (most : Int)) (.slice none 0 0) v (vi ki) (vi (i : Int)) H1) Q := by
     refine ah (yh ..) ?_;exact hk v o H1 (bA _) ho hv h1.to
    by_cases hlt : (j : Int) < dP l[i] 7 * ki.tmod 3
    ·refine aa (bS hlt) ?_
     refine gs ?_;refine i4 (s := v) (l := o) h1 ?_;refine gs ?_;refine aa (bS (by omega)) ?_;refine gs ?_;refine ah (SY ..) ?_;refine jf (s := s) (l := l) (v := vi l[i]) h1 hil rfl ?_;refine af h1 (cZ l[i] n (by omega) (by omega)) fun _ H2 h2 => ?_;refine app v o (dP l[i] n) H2 (by omega) h2.to fun v' H3 h3 => ?_;refine ah (SZ ..) ?_;refine aa (aE (by omega) (by omega)) ?_;rw [show ((j : Nat) : Int) + 1 = ((j + 1 : Nat) : Int) from by omega]
     have hl1 : (o ++ [dP l[i] n]).length = o.length + 1 := by simp
     exact ih i (j + 1) ki v' (o ++ [dP l[i] n]) H3 (by omega) (by omega) (snoc hv) hil hki (by omega) h3 (fun v4 o4 H4 hle h1' hv' h2' => hk v4 o4 H4 (by omega) h1' hv' h2')
    ·refine aa (bE hlt) ?_
     refine gs ?_;exact out
  have mid : ∀ (d i : Nat) (ki : Int) (v : Value) (o : List Int) (H : AH) {Q : Value → AH → Prop}, most - o.length = d → o.length ≤ most → (∀ y ∈ o, 0 ≤ y ∧ y < (n : Int)) → i ≤ o.length → 0 ≤ ki ∧ ki < 40 → ac (ts 1 eF v o * (P * R)) H →
   (∀ v' o' H', o'.length ≤ most → (∀ y ∈ o', 0 ≤ y ∧ y < (n : Int)) → ac (ts 1 eF v' o' * (P * R)) H' → wp (S3 s (vi (n : Int)) (vi (most : Int)) (.slice none 0 0) v' (vi ki) H') Q) →
   wp (Dq s (vi (n : Int)) (vi (most : Int)) (.slice none 0 0) v (vi ki) (vi (i : Int)) H) Q := by
   intro d
   induction d using Nat.strongRecOn with
   | ind d ih =>
    intro i ki v o H Q hd ho hv hio hki hh hk;refine ah (SU ..) ?_;refine fv (s := s) (l := l) hh ?_
    have out : wp (Ac s (vi (n : Int)) (vi (most : Int)) (.slice none 0 0) v (vi ki) H) Q := by
     refine ah (Ma ..) ?_;exact hk v o H ho hv hh
    by_cases hil : i < l.length
    ·refine aa (bS (by omega)) ?_
     refine gs ?_;refine i4 (s := v) (l := o) hh ?_;refine gs ?_
     by_cases hlt : o.length < most
     ·refine aa (bS (by omega)) ?_
      refine gs ?_;refine ah (SV ..) ?_;refine jf (s := s) (l := l) (v := vi l[i]) hh hil rfl ?_;refine af hh (cZ l[i] n (by omega) (by omega)) fun _ H2 h2 => ?_;refine app v o (dP l[i] n) H2 (by omega) h2.to fun v' H3 h3 => ?_;refine ah (SX ..) ?_
      have hl1 : (o ++ [dP l[i] n]).length = o.length + 1 := by simp
      refine inner (most - (o.length + 1)) i 0 ki v' (o ++ [dP l[i] n]) H3 (by omega) (by omega) (snoc hv) hil hki (by omega) h3 fun v4 o4 H4 hle h1' hv' h2' => ?_;refine ah (SW ..) ?_;refine aa (aE (by omega) (by omega)) ?_;rw [show ((i : Nat) : Int) + 1 = ((i + 1 : Nat) : Int) from by omega];exact ih (most - o4.length) (by omega) (i + 1) ki v4 o4 H4 rfl h1' hv' (by omega) hki h2' hk
     ·refine aa (bE (by omega)) ?_
      refine gs ?_;exact out
    ·refine aa (bE (by omega)) ?_
     refine gs ?_;exact out
  have outer : ∀ (d k : Nat) (v : Value) (o : List Int) (H : AH), k + d = 40 → o.length ≤ most → (∀ y ∈ o, 0 ≤ y ∧ y < (n : Int)) → ac (ts 1 eF v o * (P * R)) H →
   wp (Mc s (vi (n : Int)) (vi (most : Int)) (.slice none 0 0) v (vi (k : Int)) H) fun v' H' => ∃ g : Value × List Int, v' = g.1 ∧ ac (pu (g.2.length ≤ most ∧ ∀ y ∈ g.2, 0 ≤ y ∧ y < n) * (ts 1 eF g.1 g.2 * P) * R) H' := by
   intro d
   induction d with
   | zero =>
    intro k v o H hk ho hv hh;refine ah (I9 ..) ?_;refine aa (bE (by omega)) ?_;refine gs ?_;refine ah (Bp ..) ?_;refine ah (I8 ..) ?_;refine am ⟨(v, o), rfl, ?_⟩;rw [aj, ac.pu];exact ⟨⟨ho, hv⟩, hh.to⟩
   | succ d ih =>
    intro k v o H hk ho hv hh;refine ah (I9 ..) ?_;refine aa (bS (by omega)) ?_;refine gs ?_;refine i4 (s := s) (l := l) hh ?_;refine gs ?_
    by_cases hl0 : 0 < l.length
    ·refine aa (j5 (by omega)) ?_
     refine gs ?_;refine ah (acC ..) ?_;refine ah (acE ..) ?_;refine mid (most - o.length) 0 k v o H rfl ho hv (Nat.zero_le _) (by omega) hh fun v' o' H' ho' hv' h' => ?_;refine ah (acD ..) ?_;refine aa (aE (by omega) (by omega)) ?_;rw [show ((k : Nat) : Int) + 1 = ((k + 1 : Nat) : Int) from by omega];exact ih (k + 1) v' o' H' (by omega) ho' hv' h'
    ·refine aa (fJ (by omega)) ?_
     refine gs ?_;refine ah (Bp ..) ?_;refine ah (I8 ..) ?_;refine am ⟨(v, o), rfl, ?_⟩;rw [aj, ac.pu];exact ⟨⟨ho, hv⟩, hh.to⟩
  have h0 := dZ 1 eF h;exact outer 40 0 (.slice none 0 0) [] H rfl (Nat.zero_le _) (fun y hy => by cases hy) h0
 obtain ⟨⟨v, o⟩, H', e, h'⟩ := law emp H (by rw [dY]; exact h);rw [e];rw [dY, ac.pu] at h';exact hk v o H' h'.1.1 h'.1.2 h'.2
theorem Rf {b w n e : Nat} {kk : IntKind} (hw : w < n) : Qy [.a n e (.int kk (w : Int))] (vp b) b (w * e) := fun k => by
 rw [at8 hw]; show k (qK b (0 + w * e)) = _; rw [Nat.zero_add]
theorem ap3 {b w n e f : Nat} {kk : IntKind} (hw : w < n) : Qy [.a n e (.int kk (w : Int)), .f f] (vp b) b (w * e + f) := fun k => by
 rw [at8 hw]; show k (qK b (0 + w * e + f)) = _; rw [Nat.zero_add]
theorem Qk {P : SP} {H : AH} {b w n : Nat} {kk : IntKind} {ro : Bool} {cs : List Value} {v : Value} {Q : Value → AH → Prop} {k : Value → OV} (h : ac P H) [i : Hs P b (.cells ro cs)] (hw : w < n) (hv : cs[w]? = some v) (hk : wp (k v) Q) : wp (ld [.a n 1 (.int kk (w : Int))] (vp b) H k) Q :=
 ak h (Rf hw) (by rw [Nat.mul_one]; exact hv) hk
theorem Uo (cs : List Value) (w : Nat) (v : Value) (h : w < cs.length) : splice cs w [v] = cs.set w v := by
 unfold splice;rw [List.set_eq_take_append_cons_drop, if_pos h];simp
theorem axH {P P' : SP} {H : AH} {b w n : Nat} {kk : IntKind} {cs : List Value} {v : Value} {Q : Value → AH → Prop} {k : AH → OV} (h : ac P H) [i : Hs P b (.cells false cs)] (hw : w < n) (hn : cs.length = n) [c : wD v [v]] (hv : [v].all Value.oneCell' = true) [u : Up P b (.cells false (cs.set w v)) P']
 (hk : ∀ H', ac P' H' → wp (k H') Q) : wp (st 1 [.a n 1 (.int kk (w : Int))] (vp b) v H k) Q := by
 haveI : wF cs w [v] (cs.set w v) := ⟨by simp; omega, (Uo cs w v (by omega)).symm⟩
 exact bg h (o := w) (fun k => by rw [at8 hw]; show k (qK b (0 + w * 1)) = _; rw [Nat.zero_add, Nat.mul_one]) rfl hv hk
theorem Um (cs xs : List Value) (h : xs.length = cs.length) : splice cs 0 xs = xs := by
 unfold splice;rw [List.take_zero, List.nil_append, Nat.zero_add, List.drop_eq_nil_of_le (by omega), List.append_nil]
abbrev Wk := Option (Nat × Nat × Tk)
def wB : Wk → List Value
 | none => [.pointer none, .pointer none, .pointer none]
 | some q => tkV q.2.2.x.op q.1 q.2.1
theorem kX (q : Wk) : (wB q).length = 3 := by cases q <;> rfl
def YE (p x : Nat) (rp : List Nat) : Wk → SP
 | none => emp
 | some q => aT q.1 p rp q.2.2 * zT q.2.1 x q.2.2
def lZ (p x : Nat) (rp : List Nat) : List Wk → SP
 | [] => emp
 | q :: l => YE p x rp q * lZ p x rp l
theorem JX (p x : Nat) (rp : List Nat) : ∀ {ws : List Wk} {i : Nat} (h : i < ws.length), ∃ l1 l2, (∀ rp', lZ p x rp' ws = YE p x rp' ws[i] * (lZ p x rp' l1 * lZ p x rp' l2)) ∧ ∀ rp' q, lZ p x rp' (ws.set i q) = YE p x rp' q * (lZ p x rp' l1 * lZ p x rp' l2) := by
 intro ws
 induction ws with
 | nil => intro i h; simp at h
 | cons q ws ih =>
  intro i h
  cases i with
  | zero =>
   refine ⟨[], ws, fun rp' => ?_, fun rp' q => ?_⟩
   ·show YE p x rp' q * lZ p x rp' ws = _ * (emp * _); rw [g7]; rfl
   ·show YE p x rp' q * lZ p x rp' ws = _ * (emp * _); rw [g7]
  | succ i =>
   have hi : i < ws.length := by simpa using h
   obtain ⟨l1, l2, e1, e2⟩ := ih (i := i) hi;refine ⟨q :: l1, l2, fun rp' => ?_, fun rp' q' => ?_⟩
   ·show YE p x rp' q * lZ p x rp' ws = YE p x rp' (ws[i]'hi) * (YE p x rp' q * lZ p x rp' l1 * lZ p x rp' l2)
    rw [e1]; ac_rfl
   ·show YE p x rp' q * lZ p x rp' (ws.set i q') = YE p x rp' q' * (YE p x rp' q * lZ p x rp' l1 * lZ p x rp' l2)
    rw [e2]; ac_rfl
theorem Qq {p x : Nat} {rp rp' : List Nat} (hp : rp <+: rp') : ∀ (ws : List Wk) {R : SP} {H : AH}, ac (lZ p x rp ws * R) H → ac (lZ p x rp' ws * R) H := by
 intro ws
 induction ws with
 | nil => intro R H h; exact h
 | cons q ws ih =>
  intro R H h
  have h1 : ac (lZ p x rp ws * (YE p x rp q * R)) H := by
   have : ac (YE p x rp q * lZ p x rp ws * R) H := h;exact this.to
  have h2 := ih h1;show ac (YE p x rp' q * lZ p x rp' ws * R) H
  cases q with
  | none =>
   have h3 : ac (lZ p x rp' ws * (emp * R)) H := h2;have h4 : ac (emp * lZ p x rp' ws * R) H := h3.to;exact h4
  | some q =>
   have h3 : ac (aT q.1 p rp q.2.2 * (zT q.2.1 x q.2.2 * (lZ p x rp' ws * R))) H := by
    have h4 : ac (lZ p x rp' ws * (aT q.1 p rp q.2.2 * zT q.2.1 x q.2.2 * R)) H := h2;exact h4.to
   have h5 := apP hp h3;have h6 : ac (aT q.1 p rp' q.2.2 * zT q.2.1 x q.2.2 * lZ p x rp' ws * R) H := h5.to;exact h6
def WkR (σ : bd) (q : Wk) : Prop := match q with
 | none => True
 | some q => QD σ q.2.2
structure WsR (σ : bd) (ws : List Wk) (ats : List Nat) : Prop where
 l : ws.length = 4
 al : ats.length = 4
 r : ∀ w (h : w < 4), WkR σ (ws[w]'(by omega))
theorem WkR.mono {σ σ' : bd} {q : Wk} (h : WkR σ q) (hc : σ'.c = σ.c) (ho : σ.obs.length ≤ σ'.obs.length) : WkR σ' q := by
 cases q with
 | none => trivial
 | some q => exact QD.mono (show QD σ q.2.2 from h) hc ho
theorem WsR.mono {σ σ' : bd} {ws : List Wk} {ats : List Nat} (h : WsR σ ws ats) (hc : σ'.c = σ.c) (ho : σ.obs.length ≤ σ'.obs.length) : WsR σ' ws ats :=
 ⟨h.l, h.al, fun w hw => (h.r w hw).mono hc ho⟩
theorem WsR.set {σ : bd} {ws : List Wk} {ats : List Nat} (h : WsR σ ws ats) {w : Nat} (hw : w < 4) {q : Wk} (a : Nat) (hq : WkR σ q) : WsR σ (ws.set w q) (ats.set w a) := by
 refine ⟨by simp [h.l], by simp [h.al], fun w' hw' => ?_⟩;rw [List.getElem_set]
 by_cases e : w = w'
 ·rw [if_pos e]; exact hq
 ·rw [if_neg e]; exact h.r w' hw'
theorem PX {α : Type} {l : List α} {i : Nat} (h : i < l.length) : l.set i l[i] = l := List.set_getElem_self h
theorem arU : ai .ptr .eql (.pointer none) (.pointer none) = some (vb true) := rfl
theorem alV : ai .ptr .neq (.pointer none) (.pointer none) = some (vb false) := rfl
theorem arO (b : Nat) : ai .ptr .neq (vp b) (.pointer none) = some (vb true) := rfl
theorem Yy {P : SP} {H : AH} {b w f : Nat} {kk : IntKind} {ws : List Wk} {v : Value} {Q : Value → AH → Prop} {k : Value → OV} (h : ac P H) [i : Hs P b (.cells false (ws.flatMap wB))] (hl : ws.length = 4) (hw : w < 4) (hf : f < 3) (hv : (wB (ws[w]'(by omega)))[f]? = some v) (hk : wp (k v) Q) :
 wp (ld [.a 4 3 (.int kk (w : Int)), .f f] (vp b) H k) Q :=
 ak h (ap3 hw) (by rw [vo kX ws w (by omega) f hf]; exact hv) hk
theorem av4 {P : SP} {H : AH} {b w : Nat} {kk : IntKind} {ws : List Wk} {Q : Value → AH → Prop} {k : Value → OV} (h : ac P H) [i : Hs P b (.cells false (ws.flatMap wB))] (hl : ws.length = 4) (hw : w < 4) (hk : wp (k (.agg (wB (ws[w]'(by omega))).toArray)) Q) :
 wp (ldN 3 [.a 4 3 (.int kk (w : Int))] (vp b) H k) Q := by
 have hlen := iM kX ws
 haveI : DJ (ws.flatMap wB) (w * 3) 3 (wB (ws[w]'(by omega))) := ⟨by omega, (Dm kX ws w (by omega)).symm⟩
 exact Hm h (Rf hw) hk
theorem at3 {P P' : SP} {H : AH} {b w : Nat} {kk : IntKind} {ws : List Wk} {q : Wk} {Q : Value → AH → Prop} {k : AH → OV} (h : ac P H) [i : Hs P b (.cells false (ws.flatMap wB))] (hl : ws.length = 4) (hw : w < 4) [u : Up P b (.cells false ((ws.set w q).flatMap wB)) P']
 (hk : ∀ H', ac P' H' → wp (k H') Q) : wp (st 3 [.a 4 3 (.int kk (w : Int))] (vp b) (.agg (wB q).toArray) H k) Q := by
 have hlen := iM kX ws;have hs := A6 kX ws w (by omega) 0 (wB q) (by rw [kX]; omega) q (by rw [Um _ _ (by rw [kX, kX])])
 haveI : wF (ws.flatMap wB) (w * 3) (wB q) ((ws.set w q).flatMap wB) := ⟨by rw [kX, hlen]; omega, by rw [Nat.add_zero] at hs; exact hs.symm⟩
 exact bg h (l := wB q) (Rf hw) (kX q) (by
  cases q with
  | none => rfl
  | some q =>
   by_cases ho : q.2.2.x.op = 3
   ·rw [show wB (some q) = tkV q.2.2.x.op q.1 q.2.1 from rfl, aoH ho]; rfl
   ·rw [show wB (some q) = tkV q.2.2.x.op q.1 q.2.1 from rfl, aoI ho]; rfl) hk
abbrev J2 := Option Addr × Nat × Nat
abbrev QC (x : J2) : Value := .slice x.1 x.2.1 x.2.2
abbrev jw (x : J2) : List Value := [QC x]
instance : Enc jw 1 := ⟨fun _ => rfl, fun _ => rfl, by omega⟩
def eH : List (J2 × List Cl) → SP
 | [] => emp
 | q :: l => ts 4 Cl.cells (QC q.1) q.2 * eH l
theorem xV : ∀ {LL : List (J2 × List Cl)} {i : Nat} (h : i < LL.length), ∃ R, eH LL = ts 4 Cl.cells (QC LL[i].1) LL[i].2 * R ∧ ∀ q, eH (LL.set i q) = ts 4 Cl.cells (QC q.1) q.2 * R := by
 intro LL
 induction LL with
 | nil => intro i h; simp at h
 | cons q LL ih =>
  intro i h
  cases i with
  | zero => exact ⟨eH LL, rfl, fun q => rfl⟩
  | succ i =>
   obtain ⟨R, e1, e2⟩ := ih (i := i) (by simpa using h);refine ⟨ts 4 Cl.cells (QC q.1) q.2 * R, ?_, fun q' => ?_⟩
   ·show ts 4 Cl.cells (QC q.1) q.2 * eH LL = _
    rw [e1, cu]; rfl
   ·show ts 4 Cl.cells (QC q.1) q.2 * eH (LL.set i q') = _
    rw [e2, cu]
theorem IY {LL : List (J2 × List Cl)} {i : Nat} (h : i < LL.length) : Rd (eH LL) (QC LL[i].1) 4 Cl.cells LL[i].2 := by
 obtain ⟨R, e1, _⟩ := xV h;rw [e1]; infer_instance
abbrev cC (LL : List (J2 × List Cl)) : List J2 := LL.map fun q : J2 × List Cl => q.1
theorem af9 (c : Cl) (mark : Int) : Sp vF [.agg (Cl.cells c).toArray, vi mark] emp (fun y : Cl => .agg (Cl.cells y).toArray) (fun _ => emp) := by
 refine aY (OU _ _) fun R H h => ?_;refine aS h fun b1 H1 h1 => ?_;refine bo h1 fun b2 H2 h2 => ?_;refine aR h2 ?_;refine af h2 (acN c) fun y H3 h3 => ?_;refine bo h3 fun b4 H4 h4 => ?_;refine eM h4 rfl rfl fun H5 h5 => ?_;refine ah (F1 ..) ?_;refine ak h5 aB rfl ?_;refine tp h5 (by omega) (by omega) fun H6 h6 => ?_
 have out : ∀ (z : Cl) {H : AH}, ac (blk b4 (.cells false (Cl.cells z)) * (blk b2 (.cells false [vi 0, vi 0, vi 0, vi 0]) * R)) H → wp (jn (vp b2) (vp b4) H) fun v' H' => ∃ y : Cl, v' = .agg (Cl.cells y).toArray ∧ ac (emp * R) H' := by
  intro z H h;refine ah (F2 ..) ?_;refine aR h ?_;refine eM h rfl rfl fun H2 h2 => ?_;refine aR h2 ?_;exact am ⟨z, rfl, h2.to⟩
 refine ah (F3 ..) ?_
 have r1 : wp (ll (vi mark) (vp b1) (vp b2) (vp b4) (vi (dP c.op 5)) (vb true) H6) fun v' H' => ∃ y : Cl, v' = .agg (Cl.cells y).toArray ∧ ac (emp * R) H' := by
  refine ah (sC ..) ?_;refine gs ?_;refine bg h6 aB rfl rfl fun H7 h7 => ?_;refine ak h7 aB rfl ?_;refine tp h7 (by omega) (by omega) fun H8 h8 => ?_
  by_cases hg : 0 < dP c.a 4
  ·refine aa (j5 hg) ?_
   refine gs ?_;refine ak h8 aB rfl ?_;refine tp h8 (by omega) (by omega) fun H9 h9 => ?_;have m5 := eC (v := c.a) (n := 5) (by omega);refine aa (aE (by omega) (by omega)) ?_;refine bD aB ?_;refine aN h9 rfl ?_;refine aH h8 h9 (by rfl) ?_;refine tp h9 (by omega) (by omega) fun HA hA => ?_;have m3 := eC (v := c.b) (n := 3) (by omega);refine aa (aE (by omega) (by omega)) ?_;refine bg hA aB rfl rfl fun HB hB => ?_;refine bg hB aB rfl rfl fun HC hC => ?_;exact out ⟨1, y.flow, 1 + dP c.a 5, 1 + dP c.b 3⟩ hC.to
  ·refine aa (fJ hg) ?_
   refine gs ?_;exact out ⟨1, y.flow, y.a, y.b⟩ h8.to
 have k21 : ∀ b : Bool, wp (mf (vi mark) (vp b2) (vp b4) (vb b) H6) fun v' H' => ∃ y : Cl, v' = .agg (Cl.cells y).toArray ∧ ac (emp * R) H' := by
  intro b;refine ah (BY ..) ?_;cases b
  ·refine gs ?_
   refine bg h6 aB rfl rfl fun H7 h7 => ?_;refine bg h7 aB rfl rfl fun H8 h8 => ?_;exact out ⟨3, y.flow, y.a, mark⟩ h8.to
  ·refine gs ?_
   refine bg h6 aB rfl rfl fun H7 h7 => ?_;exact out ⟨2, y.flow, y.a, y.b⟩ h7.to
 have r2 : wp (ll (vi mark) (vp b1) (vp b2) (vp b4) (vi (dP c.op 5)) (vb false) H6) fun v' H' => ∃ y : Cl, v' = .agg (Cl.cells y).toArray ∧ ac (emp * R) H' := by
  refine ah (sC ..) ?_;refine gs ?_
  by_cases h2 : dP c.op 5 = 2
  ·refine aa (bi h2) ?_
   refine gs ?_;exact k21 true
  ·refine aa (aG h2) ?_
   refine gs ?_
   by_cases h3 : dP c.op 5 = 3
   ·refine aa (bi h3) ?_
    exact k21 true
   ·refine aa (aG h3) ?_
    exact k21 false
 by_cases h0 : dP c.op 5 = 0
 ·refine aa (bi h0) ?_
  refine gs ?_;exact r1
 ·refine aa (aG h0) ?_
  refine gs ?_
  by_cases h1 : dP c.op 5 = 1
  ·refine aa (bi h1) ?_
   exact r1
  ·refine aa (aG h1) ?_
   exact r2
theorem as0 {P : SP} {H : AH} {s : Value} {L : List Cl} [hR : Rd P s 4 Cl.cells L] (most : Nat) (hm : most < 1000) {k : Value × AH → OV} {Q : Value → AH → Prop} (h : ac P H)
 (hk : ∀ (b : Nat) (LL : List (J2 × List Cl)) (H' : AH), LL.length = 4 → (∀ q ∈ LL, q.2.length ≤ most) → ac (ts 1 jw (vs b 4 1) (cC LL) * (eH LL * P)) H' → wp (k (vs b 4 1, H')) Q) :
 wp ((FF lp [s, vi (most : Int)] H).bind k) Q := by
 have law : Sp lp [s, vi (most : Int)] P (fun g : Nat × List (J2 × List Cl) => vs g.1 4 1) (fun g => pu (g.2.length = 4 ∧ ∀ q ∈ g.2, q.2.length ≤ most) * (ts 1 jw (vs g.1 4 1) (cC g.2) * (eH g.2 * P))) := by
  refine aY (LV _ _) fun R H h => ?_;refine M7 (n := 4) (enc := jw) ((none, 0, 0) : J2) h rfl (by unfold dc; omega) (by omega) fun b H1 h1 => ?_;refine ah (B1 ..) ?_;refine ah (B2 ..) ?_;have loop : ∀ (d i : Nat) (LL : List (J2 × List Cl)) (H : AH), most - i = d → i ≤ most → LL.length = 4 → (∀ q ∈ LL, q.2.length ≤ i) → ac (ts 1 jw (vs b 4 1) (cC LL) * (eH LL * (P * R))) H →
   wp (mg s (vi (most : Int)) (.slice none 0 0) (vs b 4 1) (vi (i : Int)) H) fun v' H' => ∃ g : Nat × List (J2 × List Cl), v' = vs g.1 4 1 ∧ ac (pu (g.2.length = 4 ∧ ∀ q ∈ g.2, q.2.length ≤ most) * (ts 1 jw (vs g.1 4 1) (cC g.2) * (eH g.2 * P)) * R) H' := by
   intro d
   induction d with
   | zero =>
    intro i LL H hd hi h4 hq hh
    have out : wp (jB (.slice none 0 0) (vs b 4 1) H) fun v' H' => ∃ g : Nat × List (J2 × List Cl), v' = vs g.1 4 1 ∧ ac (pu (g.2.length = 4 ∧ ∀ q ∈ g.2, q.2.length ≤ most) * (ts 1 jw (vs g.1 4 1) (cC g.2) * (eH g.2 * P)) * R) H' := by
     refine ah (nZ ..) ?_;refine ah (qV ..) ?_;refine am ⟨(b, LL), rfl, ?_⟩;rw [aj, ac.pu];exact ⟨⟨h4, fun q hq2 => eE (hq q hq2) hi⟩, hh.to⟩
    refine ah (qW ..) ?_;refine fv (s := s) (l := L) hh ?_
    by_cases hl : i < L.length
    ·refine aa (bS (by omega)) ?_
     refine gs ?_;refine aa (bE (by omega)) ?_;refine gs ?_;exact out
    ·refine aa (bE (by omega)) ?_
     refine gs ?_;exact out
   | succ d ih =>
    intro i LL H hd hi h4 hq hh
    have out : wp (jB (.slice none 0 0) (vs b 4 1) H) fun v' H' => ∃ g : Nat × List (J2 × List Cl), v' = vs g.1 4 1 ∧ ac (pu (g.2.length = 4 ∧ ∀ q ∈ g.2, q.2.length ≤ most) * (ts 1 jw (vs g.1 4 1) (cC g.2) * (eH g.2 * P)) * R) H' := by
     refine ah (nZ ..) ?_;refine ah (qV ..) ?_;refine am ⟨(b, LL), rfl, ?_⟩;rw [aj, ac.pu];exact ⟨⟨h4, fun q hq2 => eE (hq q hq2) hi⟩, hh.to⟩
    refine ah (qW ..) ?_;refine fv (s := s) (l := L) hh ?_
    by_cases hl : i < L.length
    case neg =>
     refine aa (bE (by omega)) ?_;refine gs ?_;exact out
    refine aa (bS (by omega)) ?_;refine gs ?_;refine aa (bS (by omega)) ?_;refine gs ?_;refine ah (B3 ..) ?_
    have hw4 : i % 4 < LL.length := by omega
    have hhl : (cC LL).length = LL.length := by simp [cC]
    refine aa (kH (by omega)) ?_;refine aa (kH (by omega)) ?_;rw [show (i : Int).tmod 4 = ((i % 4 : Nat) : Int) from by rw [ak1 (by omega)]; omega];refine aoX (s := vs b 4 1) (enc := jw) (l := cC LL) (i := i % 4) (v := QC LL[i % 4].1) hh (by omega) (by simp [cC]) fun a ha => ?_;refine aa (ha hh) ?_;refine wx (s := s) (l := L) hh hl ?_;refine af hh (af9 L[i] i) fun y H2 h2 => ?_;refine ze ((ha h2).trans (ha hh).symm) ?_;refine Qi h2 fun rb H8 h8 => ?_;obtain ⟨Rr, e1, e2⟩ := xV hw4;have hql := hq LL[i % 4] (OX hw4);rw [e1] at h8;refine gY (s := QC LL[i % 4].1) (l := LL[i % 4].2) (y : Cl) h8 rfl ?_ (by omega) fun a c H9 h9 => ?_
    ·unfold dc; omega
    refine JW (s := vs b 4 1) (l := cC LL) (i := i % 4) ((a, LL[i % 4].2.length + 1, c) : J2) h9 (by omega) (.inl ⟨rfl, rfl⟩) rfl (by omega) rfl rfl fun H10 h10 => ?_;refine ah (B4 ..) ?_;refine aa (aE (by omega) (by omega)) ?_;rw [show ((i : Nat) : Int) + 1 = ((i + 1 : Nat) : Int) from by omega]
    have eh : cC (LL.set (i % 4) ((a, LL[i % 4].2.length + 1, c), LL[i % 4].2 ++ [y])) = (cC LL).set (i % 4) (a, LL[i % 4].2.length + 1, c) := by
     simp [cC, List.map_set]
    refine ih (i + 1) (LL.set (i % 4) ((a, LL[i % 4].2.length + 1, c), LL[i % 4].2 ++ [y])) H10 (by omega) (by omega) (by rw [OY]; exact h4) (fun q hq2 => ?_) ?_
    ·rcases List.mem_or_eq_of_mem_set hq2 with hq2 | rfl
     ·have := hq q hq2; omega
     ·simp; omega
    ·rw [eh, e2]
     exact h10.to
  refine loop most 0 [((none, 0, 0), []), ((none, 0, 0), []), ((none, 0, 0), []), ((none, 0, 0), [])] H1 rfl (Nat.zero_le _) rfl (fun q hq => by
   simp only [ul, List.not_mem_nil, or_false] at hq
   rcases hq with rfl | rfl | rfl | rfl <;> simp) ?_
  have z := dZ 4 Cl.cells (dZ 4 Cl.cells (dZ 4 Cl.cells (dZ 4 Cl.cells h1)));show ac (ts 1 jw (vs b 4 1) (List.replicate 4 ((none, 0, 0) : J2)) * ((ts 4 Cl.cells (.slice none 0 0) [] * (ts 4 Cl.cells (.slice none 0 0) [] * (ts 4 Cl.cells (.slice none 0 0) [] * (ts 4 Cl.cells (.slice none 0 0) [] * emp)))) * (P * R))) H1;exact z.to
 obtain ⟨⟨b, LL⟩, H', e, h'⟩ := law emp H (by rw [dY]; exact h);rw [e];rw [dY, ac.pu] at h';exact hk b LL H' h'.1.1 h'.1.2 h'.2
structure AfterR (σ σ' : bd) (k : Nat) : Prop where
 si : SI σ' k
 c : σ'.c = σ.c
 obs : σ'.obs.length = σ.obs.length
theorem arN (d : Bool) : ai .bool .eql (vb d) (vb d) = some (vb true) := by cases d <;> rfl
section
variable (p x : Nat) (rp : List Nat) (σ : bd) (K : Nat)
theorem afV (S : SI σ K) (hK : K < 200000) (n : Nat) (hn : n < 1000) :
 Sp vG [.agg [vp p, vp x].toArray, vi n] (aM p rp σ * aJ x σ) (fun _ : bd => vb true) (fun σ' => pu (AfterR σ σ' (K + 8)) * (aM p rp σ' * aJ x σ')) := by
 have hc := bQ.1 S.c;have hobs := S.obs;have hN0 := S.N;refine aY (OW _ _) fun R H h => ?_;refine aS (l := [vp p, vp x]) h fun pb H1 h1 => ?_;refine aa (kH (by omega)) ?_;rw [show (n : Int).tmod 2 = ((n % 2 : Nat) : Int) from by rw [ak1 (by omega)]; omega]
 have turn : wp (ld [.f 0] (vp pb) H1 fun v9 => (FF eg [v9, vi 5] H1).bind fun r10 => ld [.f 1] (vp pb) r10.2 fun v11 => (FF fQ [v11, vi 5] r10.2).bind fun r12 => some (vb true, r12.2)) fun v' H' => ∃ σ' : bd, v' = vb true ∧ ac (pu (AfterR σ σ' (K + 8)) * (aM p rp σ' * aJ x σ') * R) H' := by
  refine ak h1 aB rfl ?_;refine af h1 (av2 p rp σ 5 (by omega)) fun _ H2 h2 => ?_;refine ak h2 aB rfl ?_;refine af h2 (av3 x σ 5 (by omega)) fun _ H3 h3 => ?_;refine am ⟨σ.mem (σ.μ.cnt 5 (2, 0, 0) 1), rfl, ?_⟩;rw [aj, ac.pu];exact ⟨⟨(S.cnt 5 (2, 0, 0) 1 (by simp) (by simp)).mono (by omega), rfl, rfl⟩, h3.to⟩
 by_cases he : n % 2 = 0
 ·refine aa (bi (show ((n % 2 : Nat) : Int) = 0 by omega)) ?_
  refine gs ?_;exact turn
 refine aa (aG (show ¬ ((n % 2 : Nat) : Int) = 0 by omega)) ?_;refine gs ?_;refine ak h1 aB rfl ?_;obtain ⟨g, rfl, hg, k1⟩ := dh (p := p) (rp := rp) (σ := σ) (R := aJ x σ * (blk pb (.cells false [vp p, vp x]) * R)) (H := H1) h1.to;obtain ⟨gx, hgx, l1⟩ := dz (p := x) (σ := σ) (R := az p g σ * (blk pb (.cells false [vp p, vp x]) * R)) (H := H1) k1.to;refine gs ?_;refine ak l1 ae rfl ?_;have l1u := l1;unfold au at l1u;have hxl := hgx.1;refine gs ?_;refine i4 (s := gx.rv) (l := gx.rp) l1u ?_;refine gs ?_
 by_cases h0 : gx.rp.length = 0
 ·refine aa (bi (by omega)) ?_
  refine gs ?_;exact turn
 ·refine aa (aG (by omega)) ?_
  refine gs ?_;refine aa (Mj (by omega) (by rw [Int.tdiv_eq_ediv_of_nonneg (by omega)]; omega) (by rw [Int.tdiv_eq_ediv_of_nonneg (by omega)]; omega)) ?_;refine ak l1 aB rfl ?_;refine ak l1 ae rfl ?_;refine fv (s := gx.rv) (l := gx.rp) l1u ?_;refine tp l1 (by omega) (by omega) fun H2 l2 => ?_;have m0 := eC (v := (n : Int).tdiv 2) (n := gx.rp.length) (by omega);obtain ⟨o, ho⟩ : ∃ o : Nat, (o : Int) = dP ((n : Int).tdiv 2) gx.rp.length := ⟨(dP ((n : Int).tdiv 2) gx.rp.length).toNat, by omega⟩;rw [← ho];rw [← ho] at m0
  have hol : o < σ.obs.length := by omega
  obtain ⟨b, hb⟩ : ∃ b, g.rp[o]? = some b := ⟨_, cG (by omega)⟩;obtain ⟨bx, hbx⟩ : ∃ b, gx.rp[o]? = some b := ⟨_, cG (by omega)⟩;refine ak l2 aB rfl ?_;refine af l2 (sU p g σ hg o b hol hb) fun _ H3 l3 => ?_;refine bD aB ?_;refine aN l3 rfl ?_;refine aH l2 l3 (by rfl) ?_;refine bD ae ?_;refine aN l3 rfl ?_;refine aH l2 l3 (by rfl) ?_;have l3u := l3;unfold au at l3u;have l2u := l2;unfold au at l2u
  have hbx' : nK (gx.rp[o]'(by omega)) = [vp bx] := by
   rw [cG (by omega)] at hbx;rw [iP hbx]
  refine aoX (s := gx.rv) (enc := nK) (l := gx.rp) (i := o) l3u (by omega) hbx' fun a ha => ?_;refine aa (ha l3u) ?_;refine ze ((ha l2u).trans (ha l3u).symm) ?_;obtain ⟨Rr, er1, er2⟩ := qE x gx σ o bx hxl hol hbx
  have l4 : ac (db gx.m o bx (aC σ o) * (bP gx.m σ.μ * (g8 gx.ib gx.m σ.c.sh σ.nx σ.μ.N * (Rr * (az p g σ * (blk pb (.cells false [vp p, vp x]) * R)))))) H3 := by
   have l5 : ac (au x gx σ * (az p g σ * (blk pb (.cells false [vp p, vp x]) * R))) H3 := l3.to;rw [er1 _ rfl] at l5;exact l5.to
  obtain ⟨cv, l6⟩ := fu l4;refine bD ae ?_;refine aN l6 rfl ?_;refine af l6 (dI 11 (o : Int) 0) fun _ H4 l7 => ?_;refine aH l7 l6 (by rfl) ?_;refine af l7 (amJ gx.m σ.μ (11, (o : Int), 0) (by have := S.N; omega)) fun _ H5 l8 => ?_
  -- both parts again, each a little older
  obtain ⟨σ1, hs1⟩ : ∃ σ1, σ1 = σ.bump 1 := ⟨_, rfl⟩
  have S1 : SI σ1 (K + 1) := by rw [hs1]; exact S.bump 1
  have m1 : ac (az p g σ1 * (au x gx σ1 * (blk pb (.cells false [vp p, vp x]) * R))) H5 := by
   have q1 : ac (db gx.m o bx (aC σ o) * (bP gx.m { σ.μ with N := σ.μ.N + 1 } * (g8 gx.ib gx.m σ.c.sh σ.nx σ.μ.N * (Rr * (az p g σ * (blk pb (.cells false [vp p, vp x]) * R)))))) H5 := lA (cv := cv) l8.to;have q2 := nX (L' := σ.μ.N + 1) (by omega) (ac.fr (A := g8 gx.ib gx.m σ.c.sh σ.nx σ.μ.N) q1)
   have q3 : ac (au x gx (σ.bump 1) * (az p g σ * (blk pb (.cells false [vp p, vp x]) * R))) H5 := by
    have e2 := er2 { σ.μ with N := σ.μ.N + 1 } (aC σ o);rw [Ge hol] at e2;have e3 : au x gx (σ.bump 1) = _ := e2;rw [e3];exact q2.to
   have q5 : ac (az p g σ * (au x gx (σ.bump 1) * (blk pb (.cells false [vp p, vp x]) * R))) H5 := q3.to;unfold az at q5;have q6 := jD (V := σ.μ.V) (E := σ.μ.E) (N := σ.μ.N) (N' := σ.μ.N + 1) (by omega) (ac.fr (A := bL g.m σ.μ) q5);rw [hs1];unfold az;exact q6.to
  have es : σ1.obs = σ.obs ∧ σ1.c = σ.c ∧ σ1.μ.V = σ.μ.V ∧ σ1.places = σ.places ∧ σ.μ.N ≤ σ1.μ.N ∧ σ1.μ.N < 800000 := by rw [hs1]; exact ⟨rfl, rfl, rfl, rfl, by simp, by have := S.N; show σ.μ.N + 1 < _; omega⟩
  clear hs1
  obtain ⟨eo, ec, eV, ep, eN, eN8⟩ := es
  have hg1 : g.rp.length = σ1.obs.length := by rw [eo]; exact hg
  have hx1 : gx.rp.length = σ1.obs.length := by rw [eo]; exact hxl
  have ho1 : o < σ1.obs.length := by rw [eo]; exact hol
  clear l8 l7 l6 l4 l3 l2 l1 k1 l3u l2u l1u h1 h turn
  have hw : σ.μ.V (11, (o : Int), 0) < 18446744073709551616 := S.V _
  have hN8 : σ1.μ.N < 1099511627000 := by omega
  refine aa (v := vb true) rfl ?_;refine gs ?_;refine af m1 (jt (p := p) hg1 ho1 hb (adC g.m o b (aC σ1 o) σ1.μ 5 (σ.μ.V (11, (o : Int), 0)) hw hN8)) fun _ H9 m3 => ?_
  have ht : σ1.μ.N ≤ (σ1.μ.turn 5 o (σ.μ.V (11, (o : Int), 0)) (aW (σ.μ.V (11, (o : Int), 0)) 1)).N := by cases aW (σ.μ.V (11, (o : Int), 0)) 1 <;> simp
  refine gs ?_;refine af m3 (kY (p := x) ht hx1 ho1 hbx (wA gx.m o bx (aC σ1 o) σ1.μ 5 (σ.μ.V (11, (o : Int), 0)) 1 (by omega) hw hN8)) fun _ H10 m4 => ?_;refine gs ?_;refine aa (arN _) ?_;refine gs ?_;refine am ⟨σ1.mem (σ1.μ.turn 5 o (σ.μ.V (11, (o : Int), 0)) (aW (σ.μ.V (11, (o : Int), 0)) 1)), rfl, ?_⟩;rw [aj, ac.pu];refine ⟨⟨(S1.turn 5 o _ 1).mono (by omega), ec, by show σ1.obs.length = _; rw [eo]⟩, ?_⟩;obtain ⟨σ2, hs2⟩ : ∃ σ2, σ2 = σ1.mem (σ1.μ.turn 5 o (σ.μ.V (11, (o : Int), 0)) (aW (σ.μ.V (11, (o : Int), 0)) 1)) := ⟨_, rfl⟩
  have e2 : σ2.obs = σ.obs ∧ σ2.places = σ.places ∧ σ.μ.N ≤ σ2.μ.N := by rw [hs2]; exact ⟨eo, ep, eE eN ht⟩
  have m5 : ac (az p g σ2 * (au x gx σ2 * (blk pb (.cells false [vp p, vp x]) * R))) H10 := by rw [hs2]; exact m4.to
  rw [← hs2];have q1 := bz (p := p) (rp := g.rp) (σ := σ2) (R := au x gx σ2 * (blk pb (.cells false [vp p, vp x]) * R)) (H := H10) g rfl (by rw [e2.1]; exact hg) m5;have q2 := cH (p := x) (σ := σ2) (R := aM p g.rp σ2 * (blk pb (.cells false [vp p, vp x]) * R)) (H := H10) gx ⟨by rw [e2.1]; exact hxl, by rw [e2.2.1]; exact hgx.2.1, eE hgx.2.2 e2.2.2⟩ q1.to;exact q2.to
end
instance {c : Bool} {e1 : Option Value} {k : Value → OV} : Gd ((Ab (yv undef) c e1 (some undef)).bind k) (k undef) := ⟨fun h => by cases c <;> exact h⟩
theorem abW {ws : List Wk} {w : Nat} (h : w < ws.length) {q : Wk} (e : wB q = wB ws[w]) : (ws.set w q).flatMap wB = ws.flatMap wB := by
 rw [FI ws w h q, e, ← mY ws w h]
theorem axN {xb x : Nat} {r : bd × Tk × Bool} (h : r.2.2 = false) : zU xb x r = zT xb x r.2.1 := by
 unfold zU zT
 split
 ·exact axL h
 ·unfold yU yT
  simp only [h]
  rfl
theorem awR {e p : Nat} {rp : List Nat} {r : bd × Tk × Bool} (h : r.2.2 = false) : aU e p rp r = aT e p rp r.2.1 := by
 unfold aU;rw [if_neg (by rw [h]; simp)]
section
variable (p x pb tb ab : Nat) (lb : Nat) (LL : List (J2 × List Cl)) (pv : Value) (picks : List Int) (blows : Bool) (most : Nat)
abbrev TuP (rp : List Nat) (σ : bd) (ws : List Wk) (ats : List Nat) (R : SP) : SP :=
 blk pb (.cells false [vp p, vp x]) * (blk tb (.cells false (ws.flatMap wB)) * (blk ab (.cells false (ats.map fun (n : Nat) => vi (n : Int))) * (aM p rp σ * (aJ x σ * (lZ p x rp ws * (ts 1 jw (vs lb 4 1) (cC LL) * (eH LL * R)))))))
def TuQ (I : bd → List Wk → Prop) (R : SP) (v' : Value) (H' : AH) : Prop := ∃ (b : Bool) (rp' : List Nat) (σ' : bd) (ws' : List Wk), v' = .tuple #[vb b, vb true] ∧ SI σ' 20000 ∧ I σ' ws' ∧ ac (aM p rp' σ' * (aJ x σ' * R)) H'
variable (I : bd → List Wk → Prop)
theorem aeN (hL : LL.length = 4) {rp : List Nat} {R : SP} {σ : bd} {ws : List Wk} {ats : List Nat} {H : AH} (S : SI σ 20000) (hI : I σ ws) (W : WsR σ ws ats)
 (h : ac (TuP p x pb tb ab lb LL rp σ ws ats R) H) (x10 x11 : Value) :
 wp (qt (vs lb 4 1) x10 x11 (vp tb) (vp ab) H) (TuQ p x I R) := by
 have hhl : (cC LL).length = 4 := by simp [cC, hL]
 have fin : ∀ b, TuQ p x I R (.tuple #[vb b, vb true]) H := fun b => ⟨b, rp, σ, ws, rfl, S, hI, h.to⟩;refine ah (B6 ..) ?_;refine ah (B8 ..) ?_
 have loop : ∀ (d w : Nat), w + d = 4 → wp (mh (vs lb 4 1) x10 x11 (vp tb) (vp ab) (vi (w : Int)) H) (TuQ p x I R) := by
  intro d
  induction d with
  | zero =>
   intro w hw;refine ah (qY ..) ?_;refine aa (bE (by omega)) ?_;refine gs ?_;refine ah (xM ..) ?_;refine ah (B7 ..) ?_;exact am (fin true)
  | succ d ih =>
   intro w hw
   have hw4 : w < 4 := by omega
   have hwL : w < LL.length := by omega
   have hwl : w < ws.length := by rw [W.l]; exact hw4
   refine ah (qY ..) ?_;refine aa (bS (by omega)) ?_;refine gs ?_;refine i4 (s := vs lb 4 1) (l := cC LL) h ?_;refine gs ?_;refine aa (bS (by omega)) ?_;refine gs ?_;refine ah (B9 ..) ?_
   have next : wp (qu (vs lb 4 1) x10 x11 (vp tb) (vp ab) (vi (w : Int)) H) (TuQ p x I R) := by
    refine ah (Ca ..) ?_;refine aa (aE (by omega) (by omega)) ?_;exact ih (w + 1) (by omega)
   cases hq : ws[w] with
   | some q =>
    refine Yy (v := vp q.2.1) h W.l hw4 (by omega) (by rw [hq]; rfl) ?_;refine aa (arO _) ?_;refine gs ?_;exact am (fin false)
   | none =>
    refine Yy (v := .pointer none) h W.l hw4 (by omega) (by rw [hq]; rfl) ?_;refine aa (alV) ?_;refine gs ?_;refine Qk (v := vi (ats[w]'(by rw [W.al]; exact hw4) : Nat)) h hw4 (by rw [vz, cG (by rw [W.al]; exact hw4)]; rfl) ?_;refine gs ?_;refine jf (s := vs lb 4 1) (l := cC LL) (i := w) (v := QC (LL[w]'hwL).1) h (by omega) (by simp [cC]) ?_;refine gs ?_
    haveI := IY (LL := LL) (i := w) hwL
    refine i4 (s := QC (LL[w]'hwL).1) (l := (LL[w]'hwL).2) h ?_;refine gs ?_
    by_cases hlt : ats[w]'(by rw [W.al]; exact hw4) < (LL[w]'hwL).2.length
    ·refine aa (bS (by omega)) ?_
     refine gs ?_;exact am (fin false)
    ·refine aa (bE (by omega)) ?_
     refine gs ?_;exact next
 exact loop 4 0 rfl
variable (x10 x11 : Value) (Z : SP)
variable (hL : LL.length = 4) (hQ : ∀ q ∈ LL, q.2.length ≤ 1000) (hm : most ≤ 500) [hP : Rd Z pv 1 eF picks]
variable (hIs : ∀ (σ : bd) (ws : List Wk) (w : Nat) (q : Nat × Nat × Tk) (now : Int) (K : Nat), K < 20000 → SI σ K → ws.length = 4 → ws[w]? = some (some q) → QD σ q.2.2 → I σ ws →
 I (jY σ q.2.2 now).1 (ws.set w (if (jY σ q.2.2 now).2.2 = true then none else some (q.1, q.2.1, (jY σ q.2.2 now).2.1))))
variable (hIb : ∀ (σ : bd) (ws : List Wk) (w e xk : Nat) (place : Int) (c : Cl), da σ.c = true → ws.length = 4 → ws[w]? = some none → I σ ws → I (σ.begin w place) (ws.set w (some (e, xk, Tk.newA σ.c w c))))
variable (hIt : blows = true → ∀ (σ σ' : bd) (ws : List Wk) (k : Nat), AfterR σ σ' k → I σ ws → I σ' ws)
include hL hm hP hIs hIb hIt
theorem Uz : ∀ (d i K now : Nat) (rp : List Nat) (σ : bd) (ws : List Wk) (ats : List Nat) (H : AH), i + d = most → SI σ K → K ≤ 16 + 12 * i → now ≤ i → WsR σ ws ats → (∀ a ∈ ats, a ≤ i) → I σ ws →
 ac (TuP p x pb tb ab lb LL rp σ ws ats Z) H →
 wp (kK (vs lb 4 1) pv (vi (most : Int)) (vb blows) (vp pb) x10 x11 (vp tb) (vp ab) (vi (now : Int)) (vi (i : Int)) H) (TuQ p x I Z) := by
 have hhl : (cC LL).length = 4 := by simp [cC, hL]
 intro d
 induction d with
 | zero =>
  intro i K now rp σ ws ats H hi S hK hnow W ha hI h;refine ah (pE ..) ?_;refine aa (bE (by omega)) ?_;refine gs ?_;refine ah (vy ..) ?_;exact aeN p x pb tb ab lb LL I hL (S.mono (by omega)) hI W h x10 x11
 | succ d ih =>
  intro i K now rp σ ws ats H hi S hK hnow W ha hI h;refine ah (pE ..) ?_;refine aa (bS (by omega)) ?_;refine gs ?_;refine ah (zR ..) ?_;refine aa (kH (by omega)) ?_
  -- what is next, whatever was done
  have next : ∀ (K' now' : Nat) (rp' : List Nat) (σ' : bd) (ws' : List Wk) (ats' : List Nat) (H' : AH), SI σ' K' → K' ≤ 16 + 12 * (i + 1) → now' ≤ i + 1 → WsR σ' ws' ats' → (∀ a ∈ ats', a ≤ i + 1) → I σ' ws' →
   ac (TuP p x pb tb ab lb LL rp' σ' ws' ats' Z) H' →
   wp (iN (vs lb 4 1) pv (vi (most : Int)) (vb blows) (vp pb) x10 x11 (vp tb) (vp ab) (vi (now' : Int)) (vi (i : Int)) H') (TuQ p x I Z) := by
   intro K' now' rp' σ' ws' ats' H' S' hK' hnow' W' ha' hI' h';refine ah (zS ..) ?_;refine aa (aE (by omega) (by omega)) ?_;rw [show ((i : Nat) : Int) + 1 = ((i + 1 : Nat) : Int) from by omega];exact ih (i + 1) K' now' rp' σ' ws' ats' H' (by omega) S' hK' hnow' W' ha' hI' h'
  have skip : ∀ (H' : AH), ac (TuP p x pb tb ab lb LL rp σ ws ats Z) H' → wp (iT (vs lb 4 1) pv (vi (most : Int)) (vb blows) (vp pb) x10 x11 (vp tb) (vp ab) (vi (now : Int)) (vi (i : Int)) H') (TuQ p x I Z) := by
   intro H' h';refine ah (mZ ..) ?_;exact next K now rp σ ws ats H' S (by omega) (by omega) W (fun a h2 => by have := ha a h2; omega) hI h'
  -- a step of one that is under way
  have step : ∀ (w : Nat) (hw : w < 4) (e xk : Nat) (t : Tk) (K1 : Nat) (σ1 : bd) (ws1 : List Wk) (ats1 : List Nat) (H1 : AH), SI σ1 K1 → K1 ≤ 16 + 12 * i + 1 → (W1 : WsR σ1 ws1 ats1) → (∀ a ∈ ats1, a ≤ i + 1) → I σ1 ws1 →
   ws1[w]'(by rw [W1.l]; exact hw) = some (e, xk, t) → ac (TuP p x pb tb ab lb LL rp σ1 ws1 ats1 Z) H1 →
   wp (kN (vs lb 4 1) pv (vi (most : Int)) (vb blows) (vp pb) x10 x11 (vp tb) (vp ab) (vi (now : Int)) (vi (i : Int)) (vi (w : Int)) H1) (TuQ p x I Z) := by
   intro w hw e xk t K1 σ1 ws1 ats1 H1 S1 hK1 W1 ha1 hI1 hwk h1
   have hwl : w < ws1.length := by rw [W1.l]; exact hw
   have hal : w < ats1.length := by rw [W1.al]; exact hw
   have wt0 := W1.r w hw;rw [hwk] at wt0;have wt : QD σ1 t := wt0;obtain ⟨l1, l2, es1, es2⟩ := JX p x rp hwl
   have es1' : lZ p x rp ws1 = aT e p rp t * zT xk x t * (lZ p x rp l1 * lZ p x rp l2) := by rw [es1, hwk]; rfl
   have K2 := Ur (now : Int) (by omega) S1 wt;obtain ⟨r, hr⟩ : ∃ r, r = jY σ1 t now := ⟨_, rfl⟩;have hI2 := hIs σ1 ws1 w (e, xk, t) now K1 (by omega) S1 W1.l (by rw [cG hwl, hwk]) wt hI1;dsimp only at hI2;have law := aeK p x rp e xk σ1 t now K1 S1 (by omega) wt;rw [← hr] at K2 hI2 law;refine ah (zY ..) ?_;refine av4 h1 W1.l hw ?_;rw [show (ws1[w]'(by rw [W1.l]; exact hw)) = some (e, xk, t) from hwk];refine aR h1 ?_
   have h2 : ac (aT e p rp t * (aM p rp σ1 * (zT xk x t * aJ x σ1)) * (blk pb (.cells false [vp p, vp x]) * (blk tb (.cells false (ws1.flatMap wB)) * (blk ab (.cells false (ats1.map fun (n : Nat) => vi (n : Int))) * (lZ p x rp l1 * (lZ p x rp l2 * (ts 1 jw (vs lb 4 1) (cC LL) * (eH LL * Z)))))))) H1 := by
    unfold TuP at h1;rw [es1'] at h1;exact h1.to
   refine af h2 law fun rp' H2 h3 => ?_;rw [aj, ac.pu] at h3;obtain ⟨hpre, h3⟩ := h3;refine aa (v := .agg (ip (if r.2.2 = true then r.2.1.code else 0)).toArray) rfl ?_;refine aa (v := vb r.2.2) rfl ?_;refine aa (v := vb true) rfl ?_;refine bo h3 fun qb H3 h4 => ?_;refine eM h4 rfl rfl fun H4 h5 => ?_;refine gs ?_;rw [Bool.not_true];refine gs ?_;refine aa (aE (by omega) (by omega)) ?_;rw [show ((now : Nat) : Int) + 1 = ((now + 1 : Nat) : Int) from by omega]
   -- the other workers', with the rings there are now
   have h6 : ac (lZ p x rp' l1 * (lZ p x rp' l2 * (aU e p rp' r * (zU xk x r * (aM p rp' r.1 * (aJ x r.1 * (blk pb (.cells false [vp p, vp x]) * (blk tb (.cells false (ws1.flatMap wB)) * (blk ab (.cells false (ats1.map fun (n : Nat) => vi (n : Int))) * (ts 1 jw (vs lb 4 1) (cC LL) * (eH LL * Z))))))))))) H4 := by
    have q1 : ac (lZ p x rp l1 * (lZ p x rp l2 * (aU e p rp' r * (zU xk x r * (aM p rp' r.1 * (aJ x r.1 * (blk pb (.cells false [vp p, vp x]) * (blk tb (.cells false (ws1.flatMap wB)) * (blk ab (.cells false (ats1.map fun (n : Nat) => vi (n : Int))) * (ts 1 jw (vs lb 4 1) (cC LL) * (eH LL * Z))))))))))) H4 := h5.to;have q2 := Qq hpre l1 q1;have q3 : ac (lZ p x rp l2 * (lZ p x rp' l1 * (aU e p rp' r * (zU xk x r * (aM p rp' r.1 * (aJ x r.1 * (blk pb (.cells false [vp p, vp x]) * (blk tb (.cells false (ws1.flatMap wB)) * (blk ab (.cells false (ats1.map fun (n : Nat) => vi (n : Int))) * (ts 1 jw (vs lb 4 1) (cC LL) * (eH LL * Z))))))))))) H4 := q2.to;have q4 := Qq hpre l2 q3;exact q4.to
   cases hd : r.2.2
   ·rw [awR hd, axN hd] at h6
    refine gs ?_;rw [hd, if_neg (by simp)] at hI2;have W2 := (W1.mono K2.c K2.obs).set hw (q := some (e, xk, r.2.1)) ats1[w] (K2.ok hd);rw [PX hal] at W2
    have ew : (ws1.set w (some (e, xk, r.2.1))).flatMap wB = ws1.flatMap wB := abW hwl (by
     rw [hwk];show tkV r.2.1.x.op e xk = tkV t.x.op e xk
     rw [K2.x])
    refine next (K1 + 3) (now + 1) rp' r.1 _ ats1 H4 K2.si (by omega) (by omega) W2 ha1 hI2 ?_;have e3 : lZ p x rp' (ws1.set w (some (e, xk, r.2.1))) = aT e p rp' r.2.1 * zT xk x r.2.1 * (lZ p x rp' l1 * lZ p x rp' l2) := es2 rp' _;unfold TuP;rw [e3, ew];exact h6.to
   ·refine gs ?_
    rw [hd, if_pos rfl] at hI2;refine jq ?_;refine at3 (ws := ws1) (q := none) h6 W1.l hw fun H5 h7 => ?_;have W2 := (W1.mono K2.c K2.obs).set hw (q := none) ats1[w] trivial;rw [PX hal] at W2;refine next (K1 + 3) (now + 1) rp' r.1 _ ats1 H5 K2.si (by omega) (by omega) W2 ha1 hI2 ?_;have e3 : lZ p x rp' (ws1.set w none) = emp * (lZ p x rp' l1 * lZ p x rp' l2) := es2 rp' _;unfold TuP;rw [e3, g7];exact h7.to
  -- one is picked
  have pick : ∀ (w : Nat) (hw : w < 4) (H' : AH), ac (TuP p x pb tb ab lb LL rp σ ws ats Z) H' →
   wp (kM (vs lb 4 1) pv (vi (most : Int)) (vb blows) (vp pb) x10 x11 (vp tb) (vp ab) (vi (now : Int)) (vi (i : Int)) (vi (w : Int)) H') (TuQ p x I Z) := by
   intro w hw H' h'
   have hwL : w < LL.length := by omega
   have hwl : w < ws.length := by rw [W.l]; exact hw
   have hal : w < ats.length := by rw [W.al]; exact hw
   refine ah (zX ..) ?_
   cases hq : ws[w] with
   | some q =>
    refine Yy (v := vp q.2.1) h' W.l hw (by omega) (by rw [hq]; rfl) ?_;refine aa (vP _) ?_;refine gs ?_;exact step w hw q.1 q.2.1 q.2.2 K σ ws ats H' S (by omega) W (fun a h2 => by have := ha a h2; omega) hI hq h'
   | none =>
    refine Yy (v := .pointer none) h' W.l hw (by omega) (by rw [hq]; rfl) ?_;refine aa (arU) ?_;refine gs ?_;refine fv (s := vs lb 4 1) (l := cC LL) h' ?_;refine aa (pr (by omega)) ?_;refine gs ?_
    have hav : (ats.map fun (n : Nat) => vi (n : Int))[w]? = some (vi (ats[w] : Nat)) := by rw [vz, cG hal]; rfl
    refine Qk (v := vi (ats[w] : Nat)) h' hw hav ?_;refine gs ?_;refine jf (s := vs lb 4 1) (l := cC LL) (i := w) (v := QC (LL[w]'hwL).1) h' (by omega) (by simp [cC]) ?_;refine gs ?_
    haveI := IY (LL := LL) (i := w) hwL
    refine i4 (s := QC (LL[w]'hwL).1) (l := (LL[w]'hwL).2) h' ?_;refine gs ?_
    by_cases hge : (LL[w]'hwL).2.length ≤ ats[w]
    ·refine aa (xx (by omega)) ?_
     refine gs ?_;exact skip H' h'
    ·refine aa (pr (by omega)) ?_
     refine gs ?_
     have hat : ats[w] < (LL[w]'hwL).2.length := by omega
     refine aR h' ?_;refine Qk (v := vi (ats[w] : Nat)) h' hw hav ?_;refine jf (s := vs lb 4 1) (l := cC LL) (i := w) (v := QC (LL[w]'hwL).1) h' (by omega) (by simp [cC]) ?_;refine Qk (v := vi (ats[w] : Nat)) h' hw hav ?_;refine wx (s := QC (LL[w]'hwL).1) (l := (LL[w]'hwL).2) h' hat ?_;have hat400 : ats[w] ≤ i := ha _ (OX hal);obtain ⟨c, hc⟩ : ∃ c : Cl, c = (LL[w]'hwL).2[ats[w]]'hat := ⟨_, rfl⟩;rw [← hc];refine af h' (YV p x rp σ S.c (by have := S.N; omega) w ats[w] c) fun g H3 h3 => ?_;obtain ⟨e, xk⟩ := g
     have ev : tkV c.op e xk = wB (some (e, xk, Tk.newA σ.c w c)) := by
      show _ = tkV (Tk.newA σ.c w c).x.op e xk;rw [au8]
     dsimp only at h3 ⊢;rw [ev];refine at3 (ws := ws) (q := some (e, xk, Tk.newA σ.c w c)) h3 W.l hw fun H6 h6 => ?_;refine Qk (v := vi (ats[w] : Nat)) h6 hw hav ?_;refine aa (aE (by omega) (by omega)) ?_;rw [show ((ats[w] : Nat) : Int) + 1 = ((ats[w] + 1 : Nat) : Int) from by omega];refine axH (v := vi ((ats[w] + 1 : Nat) : Int)) (w := w) h6 hw (by rw [sE]; exact W.al) rfl fun H8 h8 => ?_;have W2 := (W.mono (σ' := σ.begin w ats[w]) rfl (bA _)).set hw (q := some (e, xk, Tk.newA σ.c w c)) (ats[w] + 1) (QD.new (σ := σ.begin w ats[w]) S.c w c);obtain ⟨l1, l2, es1, es2⟩ := JX p x rp hwl
     have es1' : lZ p x rp ws = emp * (lZ p x rp l1 * lZ p x rp l2) := by rw [es1, hq]; rfl
     have e3' : lZ p x rp (ws.set w (some (e, xk, Tk.newA σ.c w c))) = aT e p rp (Tk.newA σ.c w c) * zT xk x (Tk.newA σ.c w c) * (lZ p x rp l1 * lZ p x rp l2) := es2 rp _;refine step w hw e xk (Tk.newA σ.c w c) (K + 1) (σ.begin w ats[w]) _ (ats.set w (ats[w] + 1)) H8 (S.begin _ _) (by omega) W2 (fun a h2 => ?_) (hIb σ ws w e xk ats[w] c S.c W.l (by rw [cG hwl, hq]) hI) (by rw [List.getElem_set_self]) ?_
     ·rcases List.mem_or_eq_of_mem_set h2 with h2 | rfl
      ·have := ha a h2; omega
      ·omega
     ·unfold TuP
      rw [e3']
      have em : ((ats.set w (ats[w] + 1)).map fun (n : Nat) => vi (n : Int)) = (ats.map fun (n : Nat) => vi (n : Int)).set w (vi ((ats[w] + 1 : Nat) : Int)) := by rw [List.map_set]
      rw [em];rw [es1', g7] at h8;exact h8.to
  have k34 : ∀ (m : Int) (H1 : AH), 0 ≤ m ∧ m < 9 → ac (TuP p x pb tb ab lb LL rp σ ws ats Z) H1 →
   wp (kL (vs lb 4 1) pv (vi (most : Int)) (vb blows) (vp pb) x10 x11 (vp tb) (vp ab) (vi (now : Int)) (vi (i : Int)) (vi m) H1) (TuQ p x I Z) := by
   intro m H1 m9 h1;refine ah (zW ..) ?_
   have other : wp ((ai .other .rem (vi m) (vi 4)).bind fun v123 => kM (vs lb 4 1) pv (vi (most : Int)) (vb blows) (vp pb) x10 x11 (vp tb) (vp ab) (vi (now : Int)) (vi (i : Int)) v123 H1) (TuQ p x I Z) := by
    refine aa (kH (by omega)) ?_
    obtain ⟨w, hw, ew⟩ : ∃ w : Nat, w < 4 ∧ m.tmod 4 = (w : Int) := by
     rw [ak1 m9.1];exact ⟨(m % 4).toNat, by omega, by omega⟩
    rw [ew];exact pick w hw H1 h1
   by_cases h8 : m = 8
   ·refine aa (bi h8) ?_
    refine gs ?_;cases hbl : blows
    ·rw [hbl] at other
     refine gs ?_;exact other
    ·refine gs ?_
     refine aR h1 ?_;refine af h1 (afV p x rp σ K S (by omega) i (by omega)) fun σ2 H2 h2 => ?_;have h2' : ac (pu (AfterR σ σ2 (K + 8)) * (aM p rp σ2 * (aJ x σ2 * (blk pb (.cells false [vp p, vp x]) * (blk tb (.cells false (ws.flatMap wB)) * (blk ab (.cells false (ats.map fun (n : Nat) => vi (n : Int))) * (lZ p x rp ws * (ts 1 jw (vs lb 4 1) (cC LL) * (eH LL * Z))))))))) H2 := h2.to;rw [ac.pu] at h2';obtain ⟨A, h3⟩ := h2';refine gs ?_;rw [Bool.not_true];refine gs ?_;refine ah (mZ ..) ?_;have := next (K + 8) now rp σ2 ws ats H2 A.si (by omega) (by omega) (W.mono A.c (Nat.le_of_eq A.obs.symm)) (fun a h2 => by have := ha a h2; omega) (hIt hbl σ σ2 ws _ A hI) h3.to;rw [hbl] at this;exact this
   ·refine aa (aG h8) ?_
    refine gs ?_;exact other
  refine ah (zV ..) ?_;refine fv (s := pv) (l := picks) h ?_;rw [show (i : Int).tmod 4 = ((i % 4 : Nat) : Int) from by rw [ak1 (by omega)]; omega]
  by_cases hpl : i < picks.length
  ·refine aa (bS (by omega)) ?_
   refine gs ?_;refine jf (s := pv) (l := picks) (v := vi picks[i]) h hpl rfl ?_;refine tp h (by omega) (by omega) fun H1 h1 => ?_;exact k34 _ H1 (eC (v := picks[i]) (n := 9) (by omega)) h1
  ·refine aa (bE (by omega)) ?_
   refine gs ?_;exact k34 _ H (by omega) h
end
theorem JS (p x : Nat) (rp : List Nat) (σ : bd) (K : Nat) (S : SI σ K) (hK : K ≤ 16) (lb : Nat) (LL : List (J2 × List Cl)) (hL : LL.length = 4) (pv : Value) (picks : List Int) (blows : Bool) (most : Nat) (hm : most ≤ 500)
 (I : bd → List Wk → Prop) (hI0 : I σ [none, none, none, none])
 (hIs : ∀ (σ : bd) (ws : List Wk) (w : Nat) (q : Nat × Nat × Tk) (now : Int) (K : Nat), K < 20000 → SI σ K → ws.length = 4 → ws[w]? = some (some q) → QD σ q.2.2 → I σ ws →
  I (jY σ q.2.2 now).1 (ws.set w (if (jY σ q.2.2 now).2.2 = true then none else some (q.1, q.2.1, (jY σ q.2.2 now).2.1))))
 (hIb : ∀ (σ : bd) (ws : List Wk) (w e xk : Nat) (place : Int) (c : Cl), da σ.c = true → ws.length = 4 → ws[w]? = some none → I σ ws → I (σ.begin w place) (ws.set w (some (e, xk, Tk.newA σ.c w c))))
 (hIt : blows = true → ∀ (σ σ' : bd) (ws : List Wk) (k : Nat), AfterR σ σ' k → I σ ws → I σ' ws)
 {Z : SP} [hP : Rd Z pv 1 eF picks] {P : SP} {H : AH} (h : ac P H) [f : Fr P (aM p rp σ * (aJ x σ * (ts 1 jw (vs lb 4 1) (cC LL) * eH LL))) Z] {k : Value × AH → OV} {Q : Value → AH → Prop}
 (hk : ∀ (b : Bool) (rp' : List Nat) (σ' : bd) (ws' : List Wk) (H' : AH), SI σ' 20000 → I σ' ws' → ac (aM p rp' σ' * (aJ x σ' * Z)) H' → wp (k (.tuple #[vb b, vb true], H')) Q) :
 wp ((FF lq [.agg [vp p, vp x].toArray, vs lb 4 1, pv, vi (most : Int), vb blows] H).bind k) Q := by
 have h0 : ac (aM p rp σ * (aJ x σ * (ts 1 jw (vs lb 4 1) (cC LL) * eH LL)) * Z) H := ac.fr h
 have main : wp (FF lq [.agg [vp p, vp x].toArray, vs lb 4 1, pv, vi (most : Int), vb blows] H) (TuQ p x I Z) := by
  refine bj (fun r => LW _ _ _ _ _ H) ?_;refine aS (l := [vp p, vp x]) h0 fun pb H1 h1 => ?_;refine bo h1 fun tb H2 h2 => ?_;refine bo h2 fun ab H4 h4 => ?_;refine ah (B5 ..) ?_;refine ah (zQ ..) ?_;refine Uz p x pb tb ab lb LL pv picks blows most I (vb false) (vb false) Z hL hm hIs hIb hIt most 0 K 0 rp σ [none, none, none, none] [0, 0, 0, 0] H4 (by omega) S (by omega) (bA _) ⟨rfl, rfl, fun w hw => ?_⟩ (fun a ha => ?_) hI0 ?_
  ·have : w = 0 ∨ w = 1 ∨ w = 2 ∨ w = 3 := by omega
   rcases this with rfl | rfl | rfl | rfl <;> trivial
  ·simp at ha; omega
  ·show ac (blk pb (.cells false [vp p, vp x]) * (blk tb (.cells false [.pointer none, .pointer none, .pointer none, .pointer none, .pointer none, .pointer none, .pointer none, .pointer none, .pointer none, .pointer none, .pointer none, .pointer none]) * (blk ab (.cells false [vi 0, vi 0, vi 0, vi 0]) * (aM p rp σ * (aJ x σ * ((emp * (emp * (emp * (emp * emp)))) * (ts 1 jw (vs lb 4 1) (cC LL) * (eH LL * Z)))))))) H4
   exact h4.to
 obtain ⟨v, H', e, b, rp', σ', ws', rfl, S', hI', h'⟩ := main;rw [e];exact hk b rp' σ' ws' H' S' hI' h'
theorem am3 {H0 : AH} (hT : H0.get 0 = some (.cells true tabC)) (c : iF) (s : Value) (L : List Cl) [hR : Rd (Xg H0) s 4 Cl.cells L] (s3 : Value) (l3 : List Int) [hR3 : Rd (Xg H0) s3 1 eF l3] (flows : Int) :
 ∃ H', FF jH [.agg (iF.cells c).toArray, s, s3, vi flows] H0 = some (vb true, H') := by
 have key : wp (FF jH [.agg (iF.cells c).toArray, s, s3, vi flows] H0) fun v' _ => v' = vb true := by
  haveI := Nq hT
  refine bj (fun r => B0 _ _ _ _ H0) ?_;refine aS (l := iF.cells c) (IQ H0) fun b1 H1 h1 => ?_;refine aR h1 ?_;refine tp h1 (by omega) (by omega) fun H2 h2 => ?_;have m5 := eC (v := flows) (n := 5) (by omega);obtain ⟨n, hn⟩ : ∃ n : Nat, (n : Int) = dP flows 5 := ⟨(dP flows 5).toNat, by omega⟩
  have hn5 : n < 5 := by omega
  rw [← hn];refine dB h2 h1 rfl ?_;refine af h2 (OT c n (by omega)) fun q H3 h3 => ?_;obtain ⟨p, x, c'⟩ := q;dsimp only at h3 ⊢;rw [aj, ac.pu] at h3;obtain ⟨hc, h3⟩ := h3;refine aa (v := .agg [vp p, vp x].toArray) rfl ?_;refine aa (v := vb true) rfl ?_;refine bo h3 fun pb H4 h4 => ?_;refine eM h4 rfl rfl fun H5 h5 => ?_;refine JT h5 fun H6 h6 => ?_;refine gs ?_;rw [Bool.not_true];refine gs ?_;rw [Bool.not_true];refine gs ?_;refine aR h6 ?_;have M := O2 c' hc n (by omega);have M16 : SI (bd.made c' n) 16 := M.si.mono (by omega);obtain ⟨rp, h7⟩ := Pj (p := p) (σ := bd.made c' n) (R := blk pb (.cells false [vp p, vp x]) * (aJ x (bd.made c' n) * (blk b1 (.cells false (iF.cells c)) * Xg H0))) (H := H6) h6.to;refine as0 (s := s) (L := L) 24 (by omega) h7 fun lb LL H8 hL _ h8 => ?_;refine dB h8 h7 rfl ?_;refine Jd (s := s3) (l := l3) 9 300 (by omega) (by omega) h8 fun pv o H9 ho hov h9 => ?_;refine dB h9 h7 rfl ?_;refine JS p x rp (bd.made c' n) 16 M16 (bA _) lb LL hL pv o false 400 (by omega) (fun _ _ => True) trivial (fun _ _ _ _ _ _ _ _ _ _ _ _ => trivial) (fun _ _ _ _ _ _ _ _ _ _ _ => trivial) (fun _ _ _ _ _ _ _ => trivial) h9 fun b rp' σ' ws' H10 S' _ h10 => ?_;refine aa (v := vb b) rfl ?_;refine aa (v := vb true) rfl ?_;refine gs ?_;refine aR h10 ?_;refine gs ?_;refine af h10 (Jb p x rp' σ' (by have := S'.E; omega) (by have := S'.pts; omega)) fun _ H11 h11 => ?_;refine gs ?_;exact am rfl
 obtain ⟨v, H', e, rfl⟩ := key;exact ⟨H', e⟩
theorem regTurns_args {H0 : AH} (hT : H0.get 0 = some (.cells true tabC)) {xc : CfgTy.I} {cc : List Value} (hc : Abs H0 CfgTy xc cc) {l : List ClTy.I} {v : Value} (hl : Abs H0 (.slice ClTy) l [v]) {l3 : List Int} {v3 : Value} (hl3 : Abs H0 (.slice (.int .i64)) l3 [v3]) (flows : Int) :
 ∃ H', FF jH [.agg cc.toArray, v, v3, vi flows] H0 = some (vb true, H') := by
 obtain ⟨c, rfl⟩ := Va hc
 haveI := DU hl
 haveI := zk hl3
 exact am3 hT c v (l.map aeM) v3 l3 flows
theorem am2 {H0 : AH} (hT : H0.get 0 = some (.cells true tabC)) (c : iF) (s : Value) (L : List Cl) [hR : Rd (Xg H0) s 4 Cl.cells L] (s3 : Value) (l3 : List Int) [hR3 : Rd (Xg H0) s3 1 eF l3] (s4 : Value) (l4 : List Int) [hR4 : Rd (Xg H0) s4 1 eF l4] (flows : Int) :
 ∃ H', FF jG [.agg (iF.cells c).toArray, s, s3, s4, vi flows] H0 = some (vb true, H') := by
 have key : wp (FF jG [.agg (iF.cells c).toArray, s, s3, s4, vi flows] H0) fun v' _ => v' = vb true := by
  haveI := Nq hT
  refine bj (fun r => BZ _ _ _ _ _ H0) ?_;refine aS (l := iF.cells c) (IQ H0) fun b1 H1 h1 => ?_;refine aR h1 ?_;refine tp h1 (by omega) (by omega) fun H2 h2 => ?_;have m5 := eC (v := flows) (n := 5) (by omega);obtain ⟨n, hn⟩ : ∃ n : Nat, (n : Int) = dP flows 5 := ⟨(dP flows 5).toNat, by omega⟩
  have hn5 : n < 5 := by omega
  rw [← hn];refine dB h2 h1 rfl ?_;refine af h2 (OT c n (by omega)) fun q H3 h3 => ?_;obtain ⟨p, x, c'⟩ := q;dsimp only at h3 ⊢;rw [aj, ac.pu] at h3;obtain ⟨hc, h3⟩ := h3;refine aa (v := .agg [vp p, vp x].toArray) rfl ?_;refine aa (v := vb true) rfl ?_;refine bo h3 fun pb H4 h4 => ?_;refine eM h4 rfl rfl fun H5 h5 => ?_;refine JT h5 fun H6 h6 => ?_;refine gs ?_;rw [Bool.not_true];refine gs ?_;rw [Bool.not_true];refine gs ?_;have M := O2 c' hc n (by omega);have M16 : SI (bd.made c' n) 16 := M.si.mono (by omega);obtain ⟨rp, h7⟩ := Pj (p := p) (σ := bd.made c' n) (R := blk pb (.cells false [vp p, vp x]) * (aJ x (bd.made c' n) * (blk b1 (.cells false (iF.cells c)) * Xg H0))) (H := H6) h6.to;refine Jd (s := s3) (l := l3) 9 200 (by omega) (by omega) h7 fun pv o H8 ho hov h8 => ?_;refine ah (vt ..) ?_;refine ah (uh ..) ?_;have loop : ∀ (d i : Nat) (pv : Value) (o : List Int) (H : AH), i + d = min l4.length 30 → o.length ≤ 200 + 4 * i →
   ac (ts 1 eF pv o * (aM p rp (bd.made c' n) * (blk pb (.cells false [vp p, vp x]) * (aJ x (bd.made c' n) * (blk b1 (.cells false (iF.cells c)) * Xg H0))))) H →
   wp (g9 s s4 (vb false) (vp pb) pv (vi (i : Int)) H) fun v' _ => v' = vb true := by
   intro d
   induction d with
   | zero =>
    intro i pv o H hi ho h;refine ah (lO ..) ?_;refine fv (s := s4) (l := l4) h ?_
    have fin : wp (i8 s (vb false) (vp pb) pv H) fun v' _ => v' = vb true := by
     refine ah (ry ..) ?_;refine ah (vx ..) ?_;refine aR h ?_;refine as0 (s := s) (L := L) 24 (by omega) h fun lb LL H9 hL _ h9 => ?_;refine dB h9 h rfl ?_;refine JS p x rp (bd.made c' n) 16 M16 (bA _) lb LL hL pv o true 400 (by omega) (fun _ _ => True) trivial (fun _ _ _ _ _ _ _ _ _ _ _ _ => trivial) (fun _ _ _ _ _ _ _ _ _ _ _ => trivial) (fun _ _ _ _ _ _ _ => trivial) h9 fun b rp' σ' ws' H10 S' _ h10 => ?_;refine aa (v := vb b) rfl ?_;refine aa (v := vb true) rfl ?_;refine gs ?_;refine aR h10 ?_;refine gs ?_;refine af h10 (Jb p x rp' σ' (by have := S'.E; omega) (by have := S'.pts; omega)) fun _ H11 h11 => ?_;refine gs ?_;exact am rfl
    by_cases hl : i < l4.length
    ·refine aa (bS (by omega)) ?_
     refine gs ?_;refine aa (bE (by omega)) ?_;refine gs ?_;exact fin
    ·refine aa (bE (by omega)) ?_
     refine gs ?_;exact fin
   | succ d ih =>
    intro i pv o H hi ho h
    have hil : i < l4.length := by omega
    refine ah (lO ..) ?_;refine fv (s := s4) (l := l4) h ?_;refine aa (bS (by omega)) ?_;refine gs ?_;refine aa (bS (by omega)) ?_;refine gs ?_;refine ah (ui ..) ?_;refine jf (s := s4) (l := l4) (v := vi l4[i]) h hil rfl ?_;refine jf (s := s4) (l := l4) (v := vi l4[i]) h hil rfl ?_;refine jf (s := s4) (l := l4) (v := vi l4[i]) h hil rfl ?_;refine JV (cs := [vi 8, vi l4[i], vi l4[i], vi l4[i]]) h rfl fun rb H2 h2 => ?_;have h3 := ue (e := 1) (enc := eF) (l := [8, l4[i], l4[i], l4[i]]) h2;refine AM (s := pv) (l := o) (m := [8, l4[i], l4[i], l4[i]]) h3 ?_ (by omega) fun pv2 H4 h4 => ?_
    ·unfold dc; simp; omega
    refine ah (uj ..) ?_;refine aa (aE (by omega) (by omega)) ?_;rw [show ((i : Nat) : Int) + 1 = ((i + 1 : Nat) : Int) from by omega];exact ih (i + 1) pv2 (o ++ [8, l4[i], l4[i], l4[i]]) H4 (by omega) (by simp; omega) h4.to
  exact loop (min l4.length 30) 0 pv o H8 (by omega) (by omega) h8
 obtain ⟨v, H', e, rfl⟩ := key;exact ⟨H', e⟩
theorem regBlows_args {H0 : AH} (hT : H0.get 0 = some (.cells true tabC)) {xc : CfgTy.I} {cc : List Value} (hc : Abs H0 CfgTy xc cc) {l : List ClTy.I} {v : Value} (hl : Abs H0 (.slice ClTy) l [v]) {l3 : List Int} {v3 : Value} (hl3 : Abs H0 (.slice (.int .i64)) l3 [v3]) {l4 : List Int} {v4 : Value} (hl4 : Abs H0 (.slice (.int .i64)) l4 [v4]) (flows : Int) :
 ∃ H', FF jG [.agg cc.toArray, v, v3, v4, vi flows] H0 = some (vb true, H') := by
 obtain ⟨c, rfl⟩ := Va hc
 haveI := DU hl
 haveI := zk hl3
 haveI := zk hl4
 exact am2 hT c v (l.map aeM) v3 l3 v4 l4 flows
end Go.Proofs.YtflbeghglllknaaGreatDoor.Gst
