/- Several texts in one. -/
import Derived.Test.YtghoamdlcjdfjaaGreatDoorAwe
namespace Go.Proofs.YtghoamdlcjdfjaaGreatDoor.Gst
open Go Go.RowKit
set_option linter.unusedSimpArgs false
set_option linter.unusedVariables false
set_option maxHeartbeats 4000000
set_option maxRecDepth 100000
set_option synthInstance.maxSize 2000
set_option synthInstance.maxHeartbeats 400000
set_option linter.unusedSectionVars false
def XZ (T : Tr Value) : Operand → Value
 | .tmp t => match T.get t with
  | some v => v
  | none => undef
 | .const v => v
 | .global g => .pointer (some ⟨g, 0, none⟩)
 | .func f => .func (.func f) #[] #[]
def X0 (m : Nat) (T : Tr Value) (dst : Option Tmp) (v : Value) : Option (Tr Value) :=
 match dst with
 | some j => match Nat.blt j m with
  | true => Tr.set v 24 T j
  | false => none
 | none => some T
def KA (ops : Array Oper) (T : Tr Value) (j : Nat) : Option Bool :=
 match (ops[j]?).bind (·.dst) with
 | some t => match T.get t with
  | some (.bool b) => some b
  | _ => none
 | none => none
def NE (P : Program) (G : List Nat) (call : TF) (ops : Array Oper) (m : Nat) (o : Oper) (T : Tr Value) (E : EH) : Option (Tr Value × EH) :=
 match o.op.operands.toList.all (HD G) with
 | true => match Region.wanted o (KA ops T) with
  | true => (uH P call (XZ T) o E).bind fun r => (X0 m T o.dst r.1).map fun T' => (T', r.2)
  | false => (X0 m T o.dst undef).map fun T' => (T', E)
 | false => none
def Kz (P : Program) (G : List Nat) (call : TF) (ops : Array Oper) (m : Nat) : List Oper → Tr Value → EH → List (Tr Value × EH) → Option (List (Tr Value × EH) × Tr Value × EH)
 | [], T, E, hist => some (hist ++ [(T, E)], T, E)
 | o :: rest, T, E, hist => (NE P G call ops m o T E).bind fun r => Kz P G call ops m rest r.1 r.2 (hist ++ [(T, E)])
def YS (P : Program) (G : List Nat) (hist : List (Tr Value × EH)) (ops : Array Oper) (p : Nat × Nat) : Bool :=
 match ops[p.1]?, hist[p.1]?, hist[if p.2 < p.1 then p.2 else p.2 + 1]? with
 | some o, some s, some s' => o.op.operands.toList.all (HD G) && eqO (ZX P (XZ s.1) o.op s'.2) (ZX P (XZ s.1) o.op s.2)
 | _, _, _ => false
def yF (P : Program) (G : List Nat) (call : TF) (ops : Array Oper) (m : Nat) (draw : Bool) (T : Tr Value) (E : EH) : Option (Tr Value × EH) :=
 match draw with
 | true => match rA ops.toList with
  | true => (Kz P G call ops m ops.toList T E []).bind fun r => match (cT ops.toList).all (YS P G r.1 ops) with
   | true => some r.2
   | false => none
  | false => none
 | false => (Kz P G call ops m ops.toList T E []).map (·.2)
abbrev TR := AE × Tr Value × EH
def ND (f : Tr Value → EH → Option TR) : Nat → Tr Value → EH → Option TR
 | 0, _, _ => none
 | n + 1, T, E => (f T E).bind fun r => match r.1 with
  | .normal => ND f n r.2.1 r.2.2
  | _ => some r
def iG (P : Program) (G : List Nat) (call : TF) (N m : Nat) : Code → Tr Value → EH → Option TR
 | .skip, T, E => some (.normal, T, E)
 | .label _, T, E => some (.normal, T, E)
 | .region _ ops draw, T, E => (yF P G call ops m draw T E).map fun s => (.normal, s.1, s.2)
 | .seq x y, T, E => (iG P G call N m x T E).bind fun r => match r.1 with
  | .normal => iG P G call N m y r.2.1 r.2.2
  | _ => some r
 | .cond c x y, T, E => match HD G c with
  | true => match XZ T c with
   | .bool true => iG P G call N m x T E
   | .bool false => iG P G call N m y T E
   | _ => none
  | false => none
 | .block id x, T, E => (iG P G call N m x T E).map fun r => match r.1 with
  | .exit i => if i = id then (.normal, r.2.1, r.2.2) else r
  | _ => r
 | .loop x, T, E => ND (iG P G call N m x) N T E
 | .exit id, T, E => some (.exit id, T, E)
 | .ret, T, E => some (.ret, T, E)
 | _, _, _ => none
def AW (T : Tr Value) (t : Nat) : Value := match T.get t with
 | some v => v
 | none => undef
def uI (P : Program) (T : Tr Value) (E : EH) : ResultVar → Option Value
 | .tmp t => some (AW T t)
 | .cell a t => (d9 P t).bind fun g => match g with
  | some n => RZ n (AW T a) E
  | none => RY (AW T a) E
def CR (P : Program) (T : Tr Value) (E : EH) : List ResultVar → Option (List Value)
 | [] => some []
 | r :: rs => (uI P T E r).bind fun v => (CR P T E rs).bind fun vs => some (v :: vs)
def VI (P : Program) (rs : List ResultVar) (r : TR) : Option (Value × EH) :=
 match r.1 with
 | .exit _ => none
 | _ => (CR P r.2.1 r.2.2 rs).map fun vs => (match vs with
  | [v] => v
  | vs => .tuple vs.toArray, r.2.2)
def He : List Value → Nat → Tr Value → Option (Tr Value)
 | [], _, T => some T
 | v :: vs, i, T => (Tr.set v 24 T i).bind fun T' => He vs (i + 1) T'
def VH (P : Program) (G : List Nat) (call : TF) (N n : Nat) (rs : List ResultVar) (s : DSh) (T : Tr Value) (E : EH) : Option (Value × EH) :=
 (iG P G call N n s.c1 T E).bind fun r => match r.1 with
  | .normal => match Nat.blt s.t n with
   | true => (NE P G call s.ops2 n s.om r.2.1 r.2.2).bind fun q => (Kz P G call s.ops3 n s.ops3.toList q.1 q.2 []).bind fun z => VI P rs (.normal, z.2.1, z.2.2)
   | false => none
  | _ => none
def CP (P : Program) (G D : List Nat) (N : Nat) : Nat → TF
 | 0 => fun _ _ _ => none
 | k + 1 => fun f args E => match P.funcs[f]? with
  | some fn => if fn.name = "runtime.NumGoroutine" then none else match fn.body with
   | some c => match Nat.ble args.length fn.ntmps with
    | true => (He args 0 .lf).bind fun T => match jG c with
     | none => (iG P G (CP P G D N k) N fn.ntmps c T E).bind (VI P fn.results.toList)
     | some s => match D.contains s.k with
      | true => VH P G (CP P G D N k) N fn.ntmps fn.results.toList s T E
      | false => none
    | false => none
   | none => none
  | none => none
section
variable {P : Program} {G : List Nat} {g d m N : Nat} {F : List AObj}
structure ER (g d m : Nat) (T : Tr Value) (A : List Value) : Prop where
 len : A.length = m
 get : ∀ t, A[t]?.getD undef = bn g d (AW T t)
theorem Hc {v : Value} {T T' : Tr Value} {j : Nat} (h : Tr.set v 24 T j = some T') (t : Nat) : AW T' t = if t = j then v else AW T t := by
 unfold AW;rw [Tr.get_set 24 h t]
 by_cases e : t = j
 ·rw [if_pos e, if_pos e]
 ·rw [if_neg e, if_neg e]
theorem ER.put {T T' : Tr Value} {A : List Value} (h : ER g d m T A) {dst : Option Tmp} {v : Value} (hp : X0 m T dst v = some T') : ER g d m T' (jY A dst ((bn g d) v)) := by
 unfold X0 at hp
 cases dst with
 | none => cases hp; exact h
 | some j =>
  simp only at hp
  split at hp
  ·rename_i hb
   have hj : j < m := Nat.le_of_ble_eq_true hb;refine ⟨by simp [jY, h.len], fun t => ?_⟩;rw [Hc hp];simp only [jY];rw [List.getElem?_set]
   by_cases e : t = j
   ·rw [if_pos e, if_pos e.symm, if_pos (by rw [h.len]; omega)]; rfl
   ·rw [if_neg e, if_neg (fun x => e x.symm)]; exact h.get t
  ·cases hp
theorem ER.ev {T : Tr Value} {A : List Value} (h : ER g d m T A) (hG : ∀ b ∈ G, b < g) {x : Operand} (hx : HD G x = true) : ed A x = (bn g d) (XZ T x) := by
 cases x with
 | tmp t => exact h.get t
 | const v => exact (G6 hx).symm
 | global b =>
  simp only [HD, List.contains_iff_mem] at hx;simp [ed, XZ, wT, xY, hG b hx]
 | func f => simp [ed, XZ]
theorem ER.yield {T : Tr Value} {A : List Value} (h : ER g d m T A) (ops : Array Oper) : cN ops A = KA ops T := by
 funext j
 unfold cN KA
 cases (ops[j]?).bind (·.dst) with
 | none => rfl
 | some t =>
  simp only [be];have hg := h.get t;unfold AW at hg
  cases hT : T.get t with
  | none =>
   rw [hT] at hg;simp only [pI] at hg
   cases hA : A[t]? with
   | none => rfl
   | some v => rw [hA] at hg; simp only [Option.getD_some] at hg; subst hg; rfl
  | some v =>
   rw [hT] at hg;simp only at hg
   cases hA : A[t]? with
   | none => rw [hA] at hg; simp only [Option.getD_none] at hg; cases v <;> simp [undef] at hg ⊢
   | some w => rw [hA] at hg; simp only [Option.getD_some] at hg; subst hg; cases v <;> simp
structure St (g d m : Nat) (F : List AObj) (x : Tr Value × EH) (y : List Value × AH) : Prop where
 er : ER g d m x.1 y.1
 hr : HR g d F x.2 y.2
theorem G9 {c : TF} {c' : a7} (hG : ∀ b ∈ G, b < g) (hc : pT g d F c c') {ops : Array Oper} {o : Oper} {T : Tr Value} {E : EH} {A : List Value} {H : AH} {r} (hS : St g d m F (T, E) (A, H)) (h : NE P G c ops m o T E = some r) :
 ∃ r', fi P G c' ops o A H = some r' ∧ St g d m F r r' := by
 unfold NE at h;unfold fi
 split at h
 ·rename_i hok
  rw [if_pos hok];have hev : ∀ x, x ∈ o.op.operands.toList → ed A x = (bn g d) (XZ T x) := fun x hx => hS.er.ev hG (List.all_eq_true.1 hok x hx);rw [hS.er.yield]
  split at h
  ·rename_i hw
   rw [if_pos hw];obtain ⟨⟨v, E1⟩, h1, h⟩ := aC.1 h;obtain ⟨T', h2, e⟩ := aM.1 h;cases e;obtain ⟨H', h3, h4⟩ := Zq hS.hr hc hev v E1 h1;rw [h3];exact ⟨_, rfl, hS.er.put h2, h4⟩
  ·rename_i hw
   rw [if_neg (by rw [hw]; simp)];obtain ⟨T', h2, e⟩ := aM.1 h;cases e;refine ⟨_, rfl, ?_, hS.hr⟩;have := hS.er.put h2
   rwa [pI] at this
 ·cases h
theorem Ez {c : TF} {c' : a7} (hG : ∀ b ∈ G, b < g) (hc : pT g d F c c') {ops : Array Oper} : ∀ (l : List Oper) {T : Tr Value} {E : EH} {A : List Value} {H : AH} {hist r}, St g d m F (T, E) (A, H) → Kz P G c ops m l T E hist = some r →
 (∃ r', cr P G c' ops l A H = some r' ∧ St g d m F r.2 r') ∧ ∃ t, r.1 = hist ++ t ∧ t.length = l.length + 1 ∧ ∀ i, i ≤ l.length → ∃ x y, t[i]? = some x ∧ cr P G c' ops (l.take i) A H = some y ∧ St g d m F x y := by
 intro l
 induction l with
 | nil =>
  intro T E A H hist r hS h;simp only [Kz] at h; cases h;refine ⟨⟨_, rfl, hS⟩, [(T, E)], rfl, rfl, ?_⟩;intro i hi
  have : i = 0 := by simpa using hi
  subst this;exact ⟨_, _, rfl, rfl, hS⟩
 | cons o l ih =>
  intro T E A H hist r hS h;simp only [Kz] at h;obtain ⟨q, hq, h⟩ := aC.1 h;obtain ⟨⟨A1, H1⟩, h1, hS1⟩ := G9 hG hc hS hq;obtain ⟨T1, E1⟩ := q;obtain ⟨⟨r', h2, hS2⟩, t, e, hl, ht⟩ := ih hS1 h;refine ⟨⟨r', by simp only [cr, h1, be]; exact h2, hS2⟩, (T, E) :: t, by rw [e]; simp, by simp [hl], ?_⟩;intro i hi
  cases i with
  | zero => exact ⟨_, _, rfl, rfl, hS⟩
  | succ i =>
   obtain ⟨x, y, hx, hy, hxy⟩ := ht i (by simpa using hi);exact ⟨x, y, by simpa using hx, by simp only [List.take_succ_cons, cr, h1, be]; exact hy, hxy⟩
theorem Kh {c : TF} {c' : a7} (hG : ∀ b ∈ G, b < g) (hc : pT g d F c c') {ops : Array Oper} {draw : Bool} {T : Tr Value} {E : EH} {A : List Value} {H : AH} {r} (hS : St g d m F (T, E) (A, H)) (h : yF P G c ops m draw T E = some r) :
 ∃ r', eX P G c' ops draw A H = some r' ∧ St g d m F r r' := by
 cases draw with
 | false =>
  simp only [yF, eX] at h ⊢;obtain ⟨q, hq, e⟩ := aM.1 h;subst e;exact (Ez hG hc _ hS hq).1
 | true =>
  simp only [yF, eX] at h ⊢
  split at h
  ·rename_i hreg
   obtain ⟨q, hq, h⟩ := aC.1 h
   split at h
   ·rename_i hall
    cases h;obtain ⟨⟨r', h1, h2⟩, t, e, hl, ht⟩ := Ez hG hc _ hS hq;refine ⟨r', ?_, h2⟩;unfold ly;rw [hreg];simp only
    cases hp : cT ops.toList with
    | nil => exact h1
    | cons p ps =>
     simp only;rw [jr ?_]
     ·exact h1
     ·rw [← hp]
      intro p hpm o ho;have hx := List.all_eq_true.1 hall p hpm;unfold YS at hx;rw [ho] at hx;simp only [List.nil_append] at e
      have st : ∀ i x, q.1[i]? = some x → St g d m F x (iL P G c' ops A H i) := by
       intro i x hs
       have hi : i < t.length := by rw [e] at hs; exact (Em.1 hs).1
       obtain ⟨x', y, hx', hy, hxy⟩ := ht i (by omega);rw [e, hx'] at hs;cases hs;unfold iL;rw [hy];exact hxy
      split at hx
      ·rename_i o' x1 x2 ho' hs hs'
       cases ho';simp only [Bool.and_eq_true] at hx;have hev : ∀ x, x ∈ o.op.operands.toList → ed (iL P G c' ops A H p.1).1 x = (bn g d) (XZ x1.1 x) := fun x hxm => (st _ _ hs).er.ev hG (List.all_eq_true.1 hx.1 x hxm);rw [YN (st _ _ hs').hr hev, YN (st _ _ hs).hr hev, On hx.2]
      ·cases hx
   ·cases h
  ·cases h
structure Ar (g d m : Nat) (F : List AObj) (x : TR) (y : AR) : Prop where
 e : x.1 = y.1
 st : St g d m F x.2 y.2
theorem FN {c : TF} {c' : a7} (hG : ∀ b ∈ G, b < g) (hc : pT g d F c c') : ∀ (k : Code) {T : Tr Value} {E : EH} {A : List Value} {H : AH} {r : TR}, St g d m F (T, E) (A, H) → iG P G c N m k T E = some r →
 ∃ r', aK P G c' k A H = some r' ∧ Ar g d m F r r' := by
 intro k
 induction k with
 | region id ops draw =>
  intro T E A H r hS hr;simp only [iG, aK] at hr ⊢;obtain ⟨q, hq, e⟩ := aM.1 hr;obtain ⟨r', h1, h2⟩ := Kh hG hc hS hq;subst e;rw [h1];exact ⟨_, rfl, rfl, h2⟩
 | seq x y ihx ihy =>
  intro T E A H r hS hr;simp only [iG, aK] at hr ⊢;obtain ⟨⟨e, T1, E1⟩, hx, hr⟩ := aC.1 hr;obtain ⟨⟨e', A1, H1⟩, h1, h2⟩ := ihx hS hx;have he : e = e' := h2.e;subst he;rw [h1];simp only [be]
  cases e with
  | normal => exact ihy h2.st hr
  | exit i => cases hr; exact ⟨_, rfl, h2⟩
  | ret => cases hr; exact ⟨_, rfl, h2⟩
 | cond b x y ihx ihy =>
  intro T E A H r hS hr;simp only [iG, aK] at hr ⊢
  split at hr
  ·rename_i hok
   rw [hS.er.ev hG hok]
   split at hr
   ·rename_i e; rw [e]; simp only [Ny]; exact ihx hS hr
   ·rename_i e; rw [e]; simp only [Ny]; exact ihy hS hr
   ·cases hr
  ·cases hr
 | block id x ih =>
  intro T E A H r hS hr;simp only [iG, aK] at hr ⊢;obtain ⟨⟨e, T1, E1⟩, hx, hr⟩ := aM.1 hr;obtain ⟨⟨e', A1, H1⟩, h1, h2⟩ := ih hS hx;have he : e = e' := h2.e;subst he;rw [h1];subst hr
  cases e with
  | normal => exact ⟨_, rfl, h2⟩
  | exit i =>
   simp only [dD]
   by_cases hi : i = id
   ·rw [if_pos hi, if_pos hi]; exact ⟨_, rfl, rfl, h2.st⟩
   ·rw [if_neg hi, if_neg hi]; exact ⟨_, rfl, h2⟩
  | ret => exact ⟨_, rfl, h2⟩
 | loop x ih =>
  intro T E A H r hS hr;simp only [iG, aK] at hr ⊢
  suffices key : ∀ n T E A H, St g d m F (T, E) (A, H) → ND (iG P G c N m x) n T E = some r → ∃ r', dI (aK P G c' x) n A H = some r' ∧ Ar g d m F r r' from by
   obtain ⟨r', h1, h2⟩ := key N T E A H hS hr;exact ⟨r', cq.2 ⟨N, h1⟩, h2⟩
  clear hr hS
  intro n
  induction n with
  | zero => intro T E A H hS hr; cases hr
  | succ n ihn =>
   intro T E A H hS hr;simp only [ND, dI] at hr ⊢;obtain ⟨⟨e, T1, E1⟩, hx, hr⟩ := aC.1 hr;obtain ⟨⟨e', A1, H1⟩, h1, h2⟩ := ih hS hx;have he : e = e' := h2.e;subst he;rw [h1];simp only [be]
   cases e with
   | normal => exact ihn _ _ _ _ h2.st hr
   | exit i => cases hr; exact ⟨_, rfl, h2⟩
   | ret => cases hr; exact ⟨_, rfl, h2⟩
 | skip => intro T E A H r hS hr; simp only [iG] at hr; cases hr; exact ⟨_, rfl, rfl, hS⟩
 | label l => intro T E A H r hS hr; simp only [iG] at hr; cases hr; exact ⟨_, rfl, rfl, hS⟩
 | exit i => intro T E A H r hS hr; simp only [iG] at hr; cases hr; exact ⟨_, rfl, rfl, hS⟩
 | ret => intro T E A H r hS hr; simp only [iG] at hr; cases hr; exact ⟨_, rfl, rfl, hS⟩
 | _ => intro T E A H r hS hr; cases hr
theorem Kk {T : Tr Value} {E : EH} {A : List Value} {H : AH} (hS : St g d m F (T, E) (A, H)) (r : ResultVar) : jZ P A H r = (uI P T E r).map (bn g d) := by
 cases r with
 | tmp t => simp only [jZ, uI, dD]; rw [hS.er.get t]
 | cell a t =>
  simp only [jZ, uI];rw [hS.er.get a]
  cases d9 P t with
  | none => rfl
  | some n => cases n with
   | none => exact hS.hr.ld1 _
   | some n => exact hS.hr.ldN _ _
theorem Uu {T : Tr Value} {E : EH} {A : List Value} {H : AH} (hS : St g d m F (T, E) (A, H)) : ∀ rs : List ResultVar, qW P A H rs = (CR P T E rs).map (fV g d) := by
 intro rs
 induction rs with
 | nil => rfl
 | cons r rs ih =>
  simp only [qW, CR];rw [Kk hS, ih]
  cases uI P T E r with
  | none => rfl
  | some v => cases CR P T E rs <;> rfl
theorem MK {rs : List ResultVar} {x : TR} {y : AR} (h : Ar g d m F x y) : dk g d F (VI P rs x) (Rt P rs y) := by
 intro v E' hx;obtain ⟨e, T, E⟩ := x;obtain ⟨e', A, H⟩ := y;have he : e = e' := h.e;subst he;have hS := h.st;have hm := Uu (P := P) hS rs
 have key : ∀ vs, CR P T E rs = some vs → ic P A H rs = some ((bn g d) (match vs with | [v] => v | vs => .tuple vs.toArray)) := by
  intro vs hvs;unfold ic;rw [hm, hvs];simp only [dD]
  congr 1
  match vs with
  | [] => simp [fV]
  | [v] => rfl
  | v :: w :: vs => simp [fV]
 cases e with
 | exit i => cases hx
 | normal =>
  simp only [VI, Rt] at hx ⊢;obtain ⟨vs, hvs, e⟩ := aM.1 hx;cases e;rw [key vs hvs];exact ⟨H, rfl, hS.hr⟩
 | ret =>
  simp only [VI, Rt] at hx ⊢;obtain ⟨vs, hvs, e⟩ := aM.1 hx;cases e;rw [key vs hvs];exact ⟨H, rfl, hS.hr⟩
theorem Ug : ∀ (vs : List Value) (i : Nat) (T : Tr Value) {T' : Tr Value}, He vs i T = some T' → ∀ t, AW T' t = if i ≤ t ∧ t < i + vs.length then (vs[t - i]?).getD undef else AW T t := by
 intro vs
 induction vs with
 | nil => intro i T T' h t; simp only [He] at h; cases h; rw [if_neg (by simp only [List.length_nil]; omega)]
 | cons v vs ih =>
  intro i T T' h t;simp only [He] at h;obtain ⟨T1, h1, h⟩ := aC.1 h;rw [ih _ _ h t, Hc h1]
  by_cases e1 : i + 1 ≤ t ∧ t < i + 1 + vs.length
  ·rw [if_pos e1, if_pos (by simp; omega)]
   rw [show t - i = (t - (i + 1)) + 1 from by omega, List.getElem?_cons_succ]
  ·rw [if_neg e1]
   by_cases e2 : t = i
   ·subst e2; rw [if_pos rfl, if_pos (by simp)]; simp
   ·rw [if_neg e2, if_neg (by simp; omega)]
theorem RN {D : List Nat} (hG : ∀ b ∈ G, b < g) (hD : ∀ k ∈ D, sR P k) : ∀ k, pT g d F (CP P G D N k) (d8 P G k) := by
 intro k
 induction k with
 | zero => intro E H f args hR v E' h; cases h
 | succ k ih =>
  intro E H f args hR v E' h;rw [CP] at h;rw [d8];simp only [] at h ⊢
  cases hf : P.funcs[f]? with
  | none => rw [hf] at h; cases h
  | some fn =>
   rw [hf] at h;simp only at h ⊢
   split at h
   ·cases h
   ·rename_i hn
    rw [if_neg hn]
    cases hb : fn.body with
    | none => rw [hb] at h; cases h
    | some c =>
     rw [hb] at h;simp only at h ⊢
     split at h
     ·rename_i hle
      have hle := Nat.le_of_ble_eq_true hle;obtain ⟨T, hT, h⟩ := aC.1 h
      have hS : St g d fn.ntmps F (T, E) (fV g d args ++ List.replicate (fn.ntmps - (fV g d args).length) undef, H) := by
       refine ⟨⟨by simp; omega, fun t => ?_⟩, hR⟩;rw [Ug _ _ _ hT];simp only [fV, List.getElem?_append, qM, vt, List.getElem?_replicate]
       by_cases e : t < args.length
       ·rw [if_pos (show 0 ≤ t ∧ t < 0 + args.length from by omega), if_pos e]
        simp [br e]
       ·rw [if_neg (show ¬ (0 ≤ t ∧ t < 0 + args.length) from by omega), if_neg e]
        have : AW .lf t = undef := rfl;rw [this, pI]
        split <;> rfl
      cases hd : jG c with
      | none =>
       rw [hd] at h;obtain ⟨r, hr, h⟩ := aC.1 h;obtain ⟨r', h1, h2⟩ := FN hG ih c hS hr;simp only;unfold nR;rw [h1];exact MK h2 v E' h
      | some q =>
       rw [hd] at h;simp only at h ⊢
       split at h
       ·rename_i hin
        rw [jr (hD _ (by simpa using hin))];unfold VH at h;unfold nc;obtain ⟨⟨e1, T1, E1⟩, hr, h⟩ := aC.1 h;obtain ⟨⟨e2, A1, H1⟩, h1, h2⟩ := FN hG ih q.c1 hS hr;have he : e1 = e2 := h2.e;subst he;rw [h1];simp only [be]
        cases e1 with
        | exit i => cases h
        | ret => cases h
        | normal =>
         simp only at h ⊢
         split at h
         ·rename_i hlt
          have hlt : q.t < fn.ntmps := Nat.le_of_ble_eq_true hlt;have hlen : A1.length = fn.ntmps := h2.st.er.len;rw [if_neg (by omega)];obtain ⟨⟨T2, E2⟩, h3, h⟩ := aC.1 h;obtain ⟨⟨A2, H2⟩, h4, h5⟩ := G9 hG ih h2.st h3;obtain ⟨z, h6, h⟩ := aC.1 h;obtain ⟨⟨⟨A3, H3⟩, h7, h8⟩, _⟩ := Ez hG ih _ h5 h6;rw [h4];simp only [be];rw [h7];exact MK (x := (.normal, z.2.1, z.2.2)) (y := (.normal, A3, H3)) ⟨rfl, h8⟩ v E' h
         ·cases h
       ·cases h
     ·cases h
end
def UL (tab : List Value) : Option (Value × EH) → Bool
 | some (.bool true, E) => match E.get 0 with
  | some (.cells true cs) => Bt (WT 0) cs tab
  | _ => false
 | _ => false
def Hf (tab : List Value) : EH := ⟨1, .nd (some (.cells true tab)) .lf .lf⟩
theorem HX {P : Program} {D : List Nat} {N k f : Nat} {tab : List Value} (hD : ∀ k ∈ D, sR P k) (hl : tab.all cB = true) (h : UL tab (CP P [0] D N k f [] (Hf tab)) = true)
 {H : AH} (hH : H.get 0 = some (.cells true tab)) : ∃ H', aF P [0] f [] H = some (.bool true, H') ∧ H.size ≤ H'.size ∧ ∀ i, i < H.size → H'.get i = H.get i := by
 obtain ⟨objs⟩ := H
 cases objs with
 | nil => cases hH
 | cons o F =>
  have ho : o = .cells true tab := by simpa [AH.get] using hH
  subst ho
  have hR : HR 1 F.length F (Hf tab) ⟨.cells true tab :: F⟩ := by
   refine ⟨rfl, bf _, by simp [AH.size, Hf, Nat.add_comm], fun b => ?_, fun b hb => ?_, fun b h1 h2 => ?_⟩
   ·cases b with
    | zero =>
     have : xY 1 F.length 0 = 0 := rfl;rw [this];show some _ = some (AObj.cells true (fV 1 F.length tab));rw [uC hl]
    | succ b =>
     have e : xY 1 F.length (b + 1) = b + 1 + F.length := by simp [xY]
     have e2 : (Hf tab).get (b + 1) = none := by
      simp only [EH.get, Hf, Tr.get]; split <;> rfl
     rw [e, e2];exact AH.get_none (by simp [AH.size]; omega)
   ·have : 1 ≤ b := hb
    obtain ⟨b, rfl⟩ : ∃ c, b = c + 1 := ⟨b - 1, by omega⟩
    simp only [EH.get, Hf, Tr.get]; split <;> rfl
   ·obtain ⟨b, rfl⟩ : ∃ c, b = c + 1 := ⟨b - 1, by omega⟩
    simp [AH.get]
  unfold UL at h
  split at h
  ·rename_i E' hE
   obtain ⟨H', h1, h2⟩ := RN (F := F) (N := N) (P := P) (by simp) hD k (Hf tab) _ f [] hR _ _ hE;refine ⟨H', ?_, ?_, fun i hi => ?_⟩
   ·have := KW k _ _ _ _ h1
    simpa using this
   ·rw [h2.size]
    have := h2.le;simp [AH.size]; omega
   ·split at h
    ·rename_i cs hcs
     have he : cs = tab := zn (BY 0) _ _ h;subst he
     cases i with
     | zero =>
      have := h2.get 0;rw [show xY 1 F.length 0 = 0 from rfl, hcs] at this;rw [this];show some (AObj.cells true (fV 1 F.length cs)) = _;rw [uC hl]; rfl
     | succ i =>
      have hi : i < F.length := by simpa [AH.size] using hi
      rw [h2.fr (i + 1) (by omega) (by omega)];simp [AH.get]
    ·cases h
  ·cases h
section
variable {P : Program} {w : World} {ev : Operand → Value} {d : Option Tmp} {x : Operand} {v a b : Value} {y : TypeId} {p : String} {e : Array Edge} {gd : Option (Nat × Bool)}
end
def tabC : List Value := [0,1,56,2,57,49,28,3,61,58,42,50,38,29,17,4,62,47,59,36,45,43,51,22,53,39,33,30,24,18,12,5,63,55,48,27,60,41,37,16,46,35,44,21,52,32,23,11,54,26,40,15,34,20,31,10,25,14,19,9,13,8,7,6].map fun n => .int .u8 n
theorem N5 : UL tabC (CP Tryz.prog [0] [] 100000 60 25 [] (Hf tabC)) = true := by decide +kernel
theorem ac.keeps {P : SP} {H H' : AH} (h : ac P H) (k : ∀ i, i < H.size → H'.get i = H.get i) : ac P H' := by
 obtain ⟨x, hx, hg⟩ := h
 exact ⟨x, hx, fun i o hi => by
  have := hg i o hi
  rw [k i (AH.lt_of_get this)]; exact this⟩
theorem Ry {H0 : AH} (hT : H0.get 0 = some (.cells true tabC)) : Hs (Rc H0) 0 (.cells true tabC) := ⟨fun h => (Fx.refl H0).fx h 0 _ hT⟩
theorem N3 {H0 : AH} {v : Value} {l : List Int} (h : Abs H0 (.slice (.int .i64)) l [v]) : Rd (Rc H0) v 1 dC l :=
 Rd.arg (t := .int .i64) (enc := dC) (E := inferInstanceAs (Enc dC 1)) (fun x c h => h.1) h
abbrev Yk : Ty := .int .i64
abbrev CfgTy : Ty := .pair Yk (.pair Yk (.pair Yk (.pair Yk (.pair (.int .u64) .unit))))
abbrev ClTy : Ty := .pair Yk (.pair Yk (.pair Yk (.pair Yk .unit)))
def VK (x : ClTy.I) : Cl := ⟨x.1, x.2.1, x.2.2.1, x.2.2.2.1⟩
theorem Y6 {H : AH} {x : ClTy.I} {cs : List Value} (h : Abs H ClTy x cs) : cs = Cl.cells (VK x) := by
 obtain ⟨c1, c2, rfl, h1, c3, c4, rfl, h2, c5, c6, rfl, h3, c7, c8, rfl, h4, h5⟩ := h;have h5 : c8 = [] := h5;rw [h1.1, h2.1, h3.1, h4.1, h5]
 rfl
theorem WL {H : AH} {x : CfgTy.I} {cs : List Value} (h : Abs H CfgTy x cs) : ∃ c : eR, cs = eR.cells c := by
 obtain ⟨c1, c2, rfl, h1, c3, c4, rfl, h2, c5, c6, rfl, h3, c7, c8, rfl, h4, c9, c10, rfl, h5, h6⟩ := h;have h6 : c10 = [] := h6;obtain ⟨e5, hw⟩ := h5
 have : 0 ≤ x.2.2.2.2.1 ∧ x.2.2.2.2.1 ≤ 18446744073709551615 := by simpa [Lit.wf, IntKind.has, IntKind.min, IntKind.max, IntKind.bits, IntKind.signed] using hw
 refine ⟨⟨x.1, x.2.1, x.2.2.1, x.2.2.2.1, x.2.2.2.2.1.toNat⟩, ?_⟩;rw [h1.1, h2.1, h3.1, h4.1, e5, h6];show _ = [vi x.1, vi x.2.1, vi x.2.2.1, vi x.2.2.2.1, .int .u64 ((x.2.2.2.2.1.toNat : Nat) : Int)];rw [Int.toNat_of_nonneg this.1]
 rfl
theorem HO {H0 : AH} {v : Value} {l : List ClTy.I} (h : Abs H0 (.slice ClTy) l [v]) : Rd (Rc H0) v 4 Cl.cells (l.map VK) := by
 have E : Enc (fun x : ClTy.I => Cl.cells (VK x)) ClTy.w := ⟨fun _ => rfl, fun _ => rfl, by decide⟩;have r := Rd.arg (t := ClTy) (enc := fun x => Cl.cells (VK x)) (E := E) (fun x c hx => Y6 hx) h;refine ⟨fun {H} hh => ?_⟩;have := r.rd hh;rw [List.flatMap_map, qM];exact this
structure New (σ : az) (k : Nat) : Prop where
 si : SI σ k
 js : ∀ l, l.1 ≠ 10 → σ.μ.V l = 0
theorem qw {flow : Int} {obj : Nat} (h : obj < 4294967296) : cS flow obj % 4294967296 = obj := by
 unfold cS;omega
theorem New.lay {σ : az} {k : Nat} (h : New σ k) (ho : σ.obs.length < 90) (f w most : Int) (hf : 0 ≤ f ∧ f < 1000) : New (σ.lay f w most) (k + 4) := by
 obtain ⟨⟨c, N, E, pts, V, obs, cells, slot, head⟩, js⟩ := h;obtain ⟨q1, q2, q3⟩ := ql most
 have hsl : cS f σ.obs.length < 18446744073709551616 := by unfold cS; omega
 have hlen : (σ.lay f w most).obs.length = σ.obs.length + 1 := by simp [az.lay, az.make]
 refine ⟨⟨c, by simp [az.lay, az.make]; omega, by simp [az.lay, az.make]; omega, by simp [az.lay, az.make]; omega, fun l => ?_, by rw [hlen]; omega, fun o ho2 => ?_, fun s i => ?_, fun o => ?_⟩, fun l hl => ?_⟩
 ·show (if l = (10, f.tmod σ.c.sh, f.tdiv σ.c.sh) then cS f σ.obs.length else σ.μ.V l) < _
  split
  ·exact hsl
  ·exact V l
 ·rw [hlen] at ho2
  unfold aw;show 1 ≤ ((((σ.obs ++ [_])[o]?).map _).getD []).length ∧ ((((σ.obs ++ [_])[o]?).map _).getD []).length < 1000
  by_cases e : o < σ.obs.length
  ·rw [List.getElem?_append_left e]
   exact cells o e
  ·rw [show o = σ.obs.length from by omega, List.getElem?_append_right (bf _), Nat.sub_self]
   show 1 ≤ (List.replicate (cW most) EG).length ∧ (List.replicate (cW most) EG).length < 1000;rw [List.length_replicate];omega
 ·rw [hlen]
  show (if (10, s, i) = ((10 : Int), f.tmod σ.c.sh, f.tdiv σ.c.sh) then cS f σ.obs.length else σ.μ.V (10, s, i)) ≠ 0 → (if (10, s, i) = ((10 : Int), f.tmod σ.c.sh, f.tdiv σ.c.sh) then cS f σ.obs.length else σ.μ.V (10, s, i)) % 4294967296 < _
  split
  ·intro _
   rw [qw (by omega)];omega
  ·intro hv
   have := slot s i hv;omega
 ·show (if ((12 : Int), (o : Int), (0 : Int)) = (10, f.tmod σ.c.sh, f.tdiv σ.c.sh) then cS f σ.obs.length else σ.μ.V (12, o, 0)) ≤ _
  rw [if_neg (by simp)];have := head o;omega
 ·show (if l = (10, f.tmod σ.c.sh, f.tdiv σ.c.sh) then cS f σ.obs.length else σ.μ.V l) = 0
  rw [if_neg (fun e => hl (by rw [e]))];exact js l hl
theorem Us (c : eR) (hc : bM c = true) : ∀ n, n ≤ 16 → New (az.made c n) (4 * n) := by
 intro n
 induction n with
 | zero =>
  intro _;exact ⟨⟨hc, bf _, bf _, bf _, fun _ => (by show (0 : Nat) < _; omega), (by show (0 : Nat) ≤ _; omega), fun o ho => (by cases ho), fun s i h => absurd rfl h, fun o => bf _⟩, fun _ _ => rfl⟩
 | succ n ih =>
  intro hn;have h := ih (by omega);have hm := (rZ c n).2.2;unfold az.made
  split
  ·exact h.lay (by omega) _ _ _ (by omega)
  ·exact ⟨h.si.mono (by omega), h.js⟩
theorem SI.clear {σ : az} {k : Nat} (h : SI σ k) (s i : Int) : SI (σ.mem (σ.μ.put (10, s, i) 0)) k := by
 refine ⟨h.c, h.N, h.E, h.pts, fun x => ?_, h.obs, h.cells, fun s' i' => ?_, fun o => ?_⟩
 ·show (if x = (10, s, i) then 0 else σ.μ.V x) < _
  split
  ·omega
  ·exact h.V x
 ·show (if ((10 : Int), s', i') = (10, s, i) then 0 else σ.μ.V (10, s', i')) ≠ 0 → (if ((10 : Int), s', i') = (10, s, i) then 0 else σ.μ.V (10, s', i')) % _ < _
  split
  ·intro h; exact absurd rfl h
  ·exact h.slot s' i'
 ·show (if ((12 : Int), (o : Int), (0 : Int)) = (10, s, i) then 0 else σ.μ.V (12, o, 0)) ≤ _
  rw [if_neg (by simp)];exact h.head o
theorem ZQ {α : Type} {P : SP} {H : AH} {s : Value} {enc : α → List Value} {l : List α} {i : Nat} {kk : IntKind} {v : Value} {Q : Value → AH → Prop} {k : Value → OV} (h : ac P H) [r : Rd P s 1 enc l] [E : Enc enc 1] (hi : i < l.length) (hv : enc l[i] = [v])
 (hk : ∀ a : Value, (∀ {P' : SP} {H' : AH}, ac P' H' → [Rd P' s 1 enc l] → am a H' = some v) → wp (k a) Q) : wp (ad [.i 1 (.int kk (i : Int))] s k) Q := by
 obtain ⟨b, o, ro, row, rfl, h2, h3, h4⟩ := AF (s := s) (enc := enc) (l := l) h hi;rw [NY hi];refine hk (oz b (o + i * 1)) fun {P' H'} h' _ => ?_;obtain ⟨b', o', ro', row', e', h2', h3', h4'⟩ := AF (s := .slice (some ⟨b, o, none⟩) l.length 1) (enc := enc) (l := l) h' hi
 obtain ⟨rfl, rfl⟩ : b = b' ∧ o = o' := by simpa using e'
 have c := Ns (enc := enc) (l := l) (g := 0) h4' hi (by omega);rw [hv] at c;simp only [am, sm, dh, be, h2'];exact c
section
variable (p x : Nat) (rp : List Nat) (σ : az) (K : Nat)
theorem KH {P : SP} {H : AH} {Q : Value → AH → Prop} {k : Value × AH → OV} {a b : Int} (h : ac P H) (h0 : 0 < b) (h1 : b < 9223372036854775808) (hk : ∀ H', ac P H' → wp (k (vi (dM a b), H')) Q) : wp ((FF bd [vi a, vi b] H).bind k) Q := by
 refine ag h (ci a b h0 h1) fun _ H1 h2 => ?_;exact hk H1 h2.to
end
theorem SI.make {σ : az} {k : Nat} (h : SI σ k) (who : Int) (o : Ob) : SI (σ.make who o) (k + 3) := by
 obtain ⟨c, N, E, pts, V, obs, cells, slot, head⟩ := h;obtain ⟨q1, q2, q3⟩ := ql o.most
 have hlen : (σ.make who o).obs.length = σ.obs.length + 1 := by simp [az.make]
 refine ⟨c, by simp [az.make]; omega, by simp [az.make]; omega, by simp [az.make]; omega, V, by rw [hlen]; omega, fun o' ho2 => ?_, fun s i hv => ?_, fun o' => ?_⟩
 ·rw [hlen] at ho2
  unfold aw;show 1 ≤ ((((σ.obs ++ [_])[o']?).map _).getD []).length ∧ ((((σ.obs ++ [_])[o']?).map _).getD []).length < 1000
  by_cases e : o' < σ.obs.length
  ·rw [List.getElem?_append_left e]
   exact cells o' e
  ·rw [show o' = σ.obs.length from by omega, List.getElem?_append_right (bf _), Nat.sub_self]
   show 1 ≤ (List.replicate (cW o.most) EG).length ∧ (List.replicate (cW o.most) EG).length < 1000;rw [List.length_replicate];omega
 ·rw [hlen]
  have := slot s i hv;show σ.μ.V (10, s, i) % 4294967296 < _;omega
 ·have := head o'
  show σ.μ.V (12, o', 0) ≤ _;omega
structure KeptR (σ : az) (t : Tk) (r : az × Tk × Bool) (k : Nat) : Prop where
 si : SI r.1 (k + 3)
 c : r.1.c = σ.c
 obs : σ.obs.length ≤ r.1.obs.length
 ok : r.2.2 = false → Yl r.1 r.2.1
 x : r.2.1.x = t.x
 who : r.2.1.who = t.who
section
variable {σ : az} {t : Tk} {k : Nat}
end
theorem Yl.new {σ : az} (hc : bM σ.c = true) (who : Int) (x : Cl) : Yl σ (Tk.newR σ.c who x) := by
 have := bE.1 hc;exact ⟨rfl, fun _ => by simp; omega, by simp, .inl rfl, by simp, by simp, by simp⟩
theorem Yl.mono {σ σ' : az} {t : Tk} (T : Yl σ t) (hc : σ'.c = σ.c) (ho : σ.obs.length ≤ σ'.obs.length) : Yl σ' t :=
 ⟨by rw [hc]; exact T.s, by rw [hc]; exact T.i, T.x, T.ats, T.mark, fun h => Nat.lt_of_lt_of_le (T.obj h) ho, T.w⟩
theorem eG.mono' {σ σ' : az} {t : Tk} (T : eG σ t) (hc : σ'.c = σ.c) (ho : σ.obs.length ≤ σ'.obs.length) : eG σ' t :=
 ⟨fun h => Nat.lt_of_lt_of_le (T.obj h) ho, by rw [hc]; exact T.s, by rw [hc]; exact T.i, T.w, T.c5, T.c0, T.ats⟩
theorem XY (σ : az) (t : Tk) (now : Int) : (ah σ t now).2.1.x = t.x := by
 unfold ah;dsimp only
 repeat' split
 all_goals rfl
theorem QH (σ : az) (t : Tk) (now : Int) : (ah σ t now).1.obs.length = σ.obs.length := by
 unfold ah;dsimp only
 repeat' split
 all_goals first | rfl | exact il σ t
def pJ (σ : az) (t : Tk) (now : Int) : az × Tk × Bool := if t.x.op = 3 then ah σ t now else NB σ t now
structure Wq (σ : az) (t : Tk) : Prop where
 e : t.x.op = 3 → eG σ t
 r : t.x.op ≠ 3 → Yl σ t
def Tk.newA (c : eR) (who : Int) (x : Cl) : Tk := if x.op = 3 then Tk.new c who x else Tk.newR c who x
structure KeptA (σ : az) (t : Tk) (r : az × Tk × Bool) (k : Nat) : Prop where
 si : SI r.1 (k + 3)
 c : r.1.c = σ.c
 obs : σ.obs.length ≤ r.1.obs.length
 ok : r.2.2 = false → Wq r.1 r.2.1
 x : r.2.1.x = t.x
theorem Wq.new {σ : az} (hc : bM σ.c = true) (who : Int) (x : Cl) : Wq σ (Tk.newA σ.c who x) := by
 by_cases ho : x.op = 3
 ·rw [show Tk.newA σ.c who x = Tk.new σ.c who x from if_pos ho]
  exact ⟨fun _ => eG.new hc who x, fun h => absurd ho h⟩
 ·rw [show Tk.newA σ.c who x = Tk.newR σ.c who x from if_neg ho]
  exact ⟨fun h => absurd h ho, fun _ => Yl.new hc who x⟩
theorem Wq.mono {σ σ' : az} {t : Tk} (T : Wq σ t) (hc : σ'.c = σ.c) (ho : σ.obs.length ≤ σ'.obs.length) : Wq σ' t := ⟨fun h => (T.e h).mono' hc ho, fun h => (T.r h).mono hc ho⟩
section
variable (p x : Nat) (rp : List Nat)
end
def ev (E : List Ev) (k : Nat) : Ev := (E[k]?).getD ⟨0, 0, (0, 0, 0)⟩
structure EvR (x : Ev) : Prop where
 who : 0 ≤ x.who ∧ x.who ≤ 63
 kind : 1 ≤ x.kind ∧ x.kind ≤ 6
structure NS (E : List Ev) (k j : Nat) : Prop where
 lt : k < j
 jl : j < E.length
 who : (ev E k).who = (ev E j).who
 no : ∀ m, k < m → m < j → (ev E m).who ≠ (ev E j).who
def sto (x : Ev) : Prop := x.kind = 2 ∨ x.kind = 3
structure Rl (E : List Ev) (k j : Nat) : Prop where
 lt : k < j
 jl : j < E.length
 kind : (ev E j).kind = 1 ∨ (ev E j).kind = 3 ∨ (ev E j).kind = 4
 loc : (ev E k).loc = (ev E j).loc
 sto : sto (ev E k)
 no : ∀ m, k < m → m < j → ¬ ((ev E m).loc = (ev E j).loc ∧ Gst.sto (ev E m))
inductive HB (E : List Ev) : Nat → Nat → Prop
 | refl (i : Nat) : HB E i i
 | own {i k j : Nat} : HB E i k → NS E k j → HB E i j
 | fnd {i k j : Nat} : HB E i k → Rl E k j → HB E i j
section
variable {E l : List Ev} {i j k : Nat} {x : Ev}
theorem cU (h : k < E.length) : ev (E ++ l) k = ev E k := by unfold ev; rw [List.getElem?_append_left h]
theorem fG : ev (E ++ [x]) E.length = x := by unfold ev; rw [List.getElem?_append_right (bf _), Nat.sub_self]; rfl
theorem NS.app (h : NS E k j) : NS (E ++ l) k j := by
 have hj := h.jl;have hk := h.lt;refine ⟨hk, by rw [nC]; omega, ?_, fun m h1 h2 => ?_⟩
 ·rw [cU (by omega), cU hj]; exact h.who
 ·rw [cU (by omega), cU hj]; exact h.no m h1 h2
theorem Rl.app (h : Rl E k j) : Rl (E ++ l) k j := by
 have hj := h.jl;have hk := h.lt;refine ⟨hk, by rw [nC]; omega, ?_, ?_, ?_, fun m h1 h2 => ?_⟩
 ·rw [cU hj]; exact h.kind
 ·rw [cU (by omega), cU hj]; exact h.loc
 ·rw [cU (by omega)]; exact h.sto
 ·rw [cU (by omega), cU hj]; exact h.no m h1 h2
theorem HB.app (h : HB E i j) : HB (E ++ l) i j := by
 induction h with
 | refl => exact .refl _
 | own _ o ih => exact .own ih o.app
 | fnd _ o ih => exact .fnd ih o.app
theorem HB.le (h : HB E i j) : i ≤ j := by
 induction h with
 | refl => exact bf _
 | own _ o ih => have := o.lt; omega
 | fnd _ o ih => have := o.lt; omega
theorem HB.same (h : HB E i k) : ∀ (d j : Nat), j = k + d → j < E.length → (ev E k).who = (ev E j).who → HB E i j := by
 intro d
 induction d using Nat.strongRecOn with
 | ind d ih =>
  intro j hj hl hw
  by_cases hd : d = 0
  ·subst hd; subst hj; exact h
  have last : ∀ n, k + n < j → (∀ m, k + n < m → m < j → (ev E m).who ≠ (ev E j).who) → ∃ m, k ≤ m ∧ NS E m j := by
   intro n
   induction n with
   | zero => exact fun h1 h2 => ⟨k, bf _, by omega, hl, hw, fun m h3 h4 => h2 m (by omega) h4⟩
   | succ n ihn =>
    intro h1 h2
    by_cases he : (ev E (k + (n + 1))).who = (ev E j).who
    ·exact ⟨_, by omega, h1, hl, he, fun m h3 h4 => h2 m h3 h4⟩
    ·refine ihn (by omega) fun m h3 h4 => ?_
     by_cases hm : m = k + (n + 1)
     ·rw [hm]; exact he
     ·exact h2 m (by omega) h4
  obtain ⟨m, hkm, ho⟩ := last (d - 1) (by omega) (fun m h1 h2 => by omega);have hmj := ho.lt;exact .own (ih (m - k) (by omega) m (by omega) (by omega) (by rw [hw]; exact ho.who.symm)) ho
end
structure wo where
 md : Nat → Nat
 cl : Nat → Nat → Option Int
 lk : Nat → Option Int
def wo.claim (G : wo) (o k : Nat) (who : Int) : wo := { G with cl := fun a b => if a = o ∧ b = k then some who else G.cl a b }
def wo.link (G : wo) (o : Nat) (who : Int) : wo := { G with lk := fun a => if a = o then some who else G.lk a }
def wo.make (G : wo) (o k : Nat) : wo := { G with md := fun a => if a = o then k else G.md a }
def Bl (G : wo) (E : List Ev) (n : Nat) (who : Int) (o : Nat) : Prop := o < n ∧ ∃ k, k < E.length ∧ (ev E k).who = who ∧ HB E (G.md o) k
structure RG (G : wo) (E : List Ev) (V : bC → Nat) (n : Nat) : Prop where
 kd : ∀ x ∈ E, EvR x
 pl : ∀ x ∈ E, x.loc.1 ≠ 13 → x.loc.1 ≠ 14 → x.loc.1 ≠ 16 → x.kind < 5
 ob : ∀ j, j < E.length → (ev E j).loc.1 = 13 → ∃ o : Nat, o < n ∧ (ev E j).loc = (13, (o : Int), 0) ∧ ((ev E j).kind = 5 ∨ j = G.md o) ∧ HB E (G.md o) j
 sl : ∀ s i, V (10, s, i) ≠ 0 → V (10, s, i) % 4294967296 < n ∧ ∃ st, st < E.length ∧ (ev E st).loc = (10, s, i) ∧ sto (ev E st) ∧ (∀ m, st < m → m < E.length → ¬ ((ev E m).loc = (10, s, i) ∧ sto (ev E m))) ∧ HB E (G.md (V (10, s, i) % 4294967296)) st
 ln : ∀ x ∈ E, x.loc.1 = 14 → ∃ o : Nat, x.loc = (14, (o : Int), 0) ∧ G.lk o = some x.who
 ce : ∀ x ∈ E, x.loc.1 = 16 → ∃ o k : Nat, x.loc = (16, (o : Int), (k : Int)) ∧ G.cl o k = some x.who
 wc : ∀ o k : Nat, G.cl o k ≠ none → k < ay (V (11, (o : Int), 0))
 wl : ∀ o : Nat, G.lk o ≠ none → aH (V (11, (o : Int), 0)) ≠ 0
 hd : ∀ o : Nat, V (12, (o : Int), 0) = 0
section
variable {G : wo} {E l : List Ev} {V V' : bC → Nat} {n n' o k : Nat} {x : Ev} {who : Int}
theorem Bl.app (h : Bl G E n who o) : Bl G (E ++ l) n who o := by
 obtain ⟨h0, k, h1, h2, h3⟩ := h;exact ⟨h0, k, by rw [nC]; omega, by rw [cU h1]; exact h2, h3.app⟩
theorem Bl.last (h : Bl G E n x.who o) : HB (E ++ [x]) (G.md o) E.length := by
 obtain ⟨h0, k, h1, h2, h3⟩ := h;exact h3.app.same (E.length - k) E.length (by omega) (by simp) (by rw [cU h1, fG]; exact h2)
theorem RG.ev (h : RG G E V n) (r : EvR x) (pl : x.loc.1 ≠ 13 → x.loc.1 ≠ 14 → x.loc.1 ≠ 16 → x.kind < 5)
 (ob : x.loc.1 = 13 → ∃ o : Nat, x.loc = (13, (o : Int), 0) ∧ x.kind = 5 ∧ Bl G E n x.who o)
 (ln : x.loc.1 = 14 → ∃ o : Nat, x.loc = (14, (o : Int), 0) ∧ G.lk o = some x.who)
 (ce : x.loc.1 = 16 → ∃ o k : Nat, x.loc = (16, (o : Int), (k : Int)) ∧ G.cl o k = some x.who)
 (hs : ∀ s i, V' (10, s, i) ≠ 0 → (V' (10, s, i) = V (10, s, i) ∧ ¬ (x.loc = (10, s, i) ∧ sto x)) ∨ (x.loc = (10, s, i) ∧ sto x ∧ Bl G E n x.who (V' (10, s, i) % 4294967296)))
 (h11 : ∀ o : Nat, ay (V (11, (o : Int), 0)) ≤ ay (V' (11, (o : Int), 0)) ∧ (aH (V (11, (o : Int), 0)) ≠ 0 → aH (V' (11, (o : Int), 0)) ≠ 0))
 (h12 : ∀ o : Nat, V' (12, (o : Int), 0) = V (12, (o : Int), 0)) : RG G (E ++ [x]) V' n := by
 have hm : ∀ {y : Ev}, y ∈ E ++ [x] → y ∈ E ∨ y = x := fun hy => by
  rcases List.mem_append.1 hy with h | h
  ·exact .inl h
  ·exact .inr (List.mem_singleton.1 h)
 have hlen : (E ++ [x]).length = E.length + 1 := by simp
 refine ⟨fun y hy => ?_, fun y hy => ?_, fun j hj hl => ?_, fun s i hv => ?_, fun y hy => ?_, fun y hy => ?_, fun o k hc => ?_, fun o hc => ?_, fun o => ?_⟩
 ·rcases hm hy with hy | rfl
  ·exact h.kd y hy
  ·exact r
 ·rcases hm hy with hy | rfl
  ·exact h.pl y hy
  ·exact pl
 ·rcases Nat.lt_or_ge j E.length with hj2 | hj2
  ·rw [cU hj2] at hl ⊢
   obtain ⟨o, o1, o2, o3, o4⟩ := h.ob j hj2 hl;exact ⟨o, o1, o2, o3, o4.app⟩
  ·have : j = E.length := by omega
   subst this;rw [fG] at hl ⊢;obtain ⟨o, o1, o2, o3⟩ := ob hl;exact ⟨o, o3.1, o1, .inl o2, o3.last⟩
 ·rcases hs s i hv with ⟨h1, h2⟩ | ⟨h1, h2, h3⟩
  ·rw [h1] at hv ⊢
   obtain ⟨q1, st, q2, q3, q4, q5, q6⟩ := h.sl s i hv;refine ⟨q1, st, by omega, by rw [cU q2]; exact q3, by rw [cU q2]; exact q4, fun m m1 m2 => ?_, q6.app⟩
   rcases Nat.lt_or_ge m E.length with hm2 | hm2
   ·rw [cU hm2]; exact q5 m m1 hm2
   ·have : m = E.length := by omega
    subst this;rw [fG]; exact h2
  ·exact ⟨h3.1, E.length, by omega, by rw [fG]; exact h1, by rw [fG]; exact h2, fun m m1 m2 => by omega, h3.last⟩
 ·rcases hm hy with hy | rfl
  ·exact h.ln y hy
  ·exact ln
 ·rcases hm hy with hy | rfl
  ·exact h.ce y hy
  ·exact ce
 ·have := h.wc o k hc
  have := (h11 o).1;omega
 ·exact (h11 o).2 (h.wl o hc)
 ·rw [h12]; exact h.hd o
theorem RG.claim (h : RG G E V n) (o k : Nat) (who : Int) (hn : G.cl o k = none) (hk : k < ay (V (11, (o : Int), 0))) : RG (G.claim o k who) E V n := by
 refine ⟨h.kd, h.pl, h.ob, h.sl, h.ln, fun x hx hl => ?_, fun a b hc => ?_, h.wl, h.hd⟩
 ·obtain ⟨a, b, h1, h2⟩ := h.ce x hx hl
  refine ⟨a, b, h1, ?_⟩;show (if a = o ∧ b = k then some who else G.cl a b) = _;rw [if_neg (fun q => by rw [q.1, q.2, hn] at h2; cases h2)];exact h2
 ·by_cases q : a = o ∧ b = k
  ·rw [q.1, q.2]; exact hk
  ·refine h.wc a b fun hh => hc ?_
   show (if a = o ∧ b = k then some who else G.cl a b) = _;rw [if_neg q];exact hh
theorem RG.link (h : RG G E V n) (o : Nat) (who : Int) (hn : G.lk o = none) (hk : aH (V (11, (o : Int), 0)) ≠ 0) : RG (G.link o who) E V n := by
 refine ⟨h.kd, h.pl, h.ob, h.sl, fun x hx hl => ?_, h.ce, h.wc, fun a hc => ?_, h.hd⟩
 ·obtain ⟨a, h1, h2⟩ := h.ln x hx hl
  refine ⟨a, h1, ?_⟩;show (if a = o then some who else G.lk a) = _;rw [if_neg (fun q => by rw [q, hn] at h2; cases h2)];exact h2
 ·by_cases q : a = o
  ·rw [q]; exact hk
  ·refine h.wl a fun hh => hc ?_
   show (if a = o then some who else G.lk a) = _;rw [if_neg q];exact hh
theorem RG.make (h : RG G E V n) (who : Int) (hw : 0 ≤ who ∧ who ≤ 3) : RG (G.make n E.length) (E ++ [⟨who, 6, (13, (n : Int), 0)⟩]) V (n + 1) := by
 have hm : ∀ {y : Ev}, y ∈ E ++ [⟨who, 6, (13, (n : Int), 0)⟩] → y ∈ E ∨ y = ⟨who, 6, (13, (n : Int), 0)⟩ := fun hy => by
  rcases List.mem_append.1 hy with h | h
  ·exact .inl h
  ·exact .inr (List.mem_singleton.1 h)
 have hlen : (E ++ [(⟨who, 6, (13, (n : Int), 0)⟩ : Ev)]).length = E.length + 1 := by simp
 have hg : ∀ o, o < n → (G.make n E.length).md o = G.md o := fun o ho => by
  show (if o = n then _ else _) = _;rw [if_neg (by omega)]
 have hgn : (G.make n E.length).md n = E.length := if_pos rfl;refine ⟨fun y hy => ?_, fun y hy => ?_, fun j hj hl => ?_, fun s i hv => ?_, fun y hy => ?_, fun y hy => ?_, h.wc, h.wl, h.hd⟩
 ·rcases hm hy with hy | rfl
  ·exact h.kd y hy
  ·exact ⟨⟨hw.1, by show who ≤ 63; omega⟩, ⟨by show (1 : Int) ≤ 6; omega, by show (6 : Int) ≤ 6; omega⟩⟩
 ·rcases hm hy with hy | rfl
  ·exact h.pl y hy
  ·exact fun q => absurd rfl q
 ·rcases Nat.lt_or_ge j E.length with hj2 | hj2
  ·rw [cU hj2] at hl ⊢
   obtain ⟨o, o1, o2, o3, o4⟩ := h.ob j hj2 hl;exact ⟨o, by omega, o2, by rw [hg o o1]; exact o3, by rw [hg o o1]; exact o4.app⟩
  ·have : j = E.length := by omega
   subst this;rw [fG];exact ⟨n, by omega, rfl, .inr hgn.symm, by rw [hgn]; exact .refl _⟩
 ·obtain ⟨q1, st, q2, q3, q4, q5, q6⟩ := h.sl s i hv
  refine ⟨by omega, st, by omega, by rw [cU q2]; exact q3, by rw [cU q2]; exact q4, fun m m1 m2 => ?_, by rw [hg _ q1]; exact q6.app⟩
  rcases Nat.lt_or_ge m E.length with hm2 | hm2
  ·rw [cU hm2]; exact q5 m m1 hm2
  ·have : m = E.length := by omega
   subst this;rw [fG]
   exact fun q => by simp at q
 ·rcases hm hy with hy | rfl
  ·exact h.ln y hy
  ·exact fun q => by simp at q
 ·rcases hm hy with hy | rfl
  ·exact h.ce y hy
  ·exact fun q => by simp at q
end
theorem KF {w m : Nat} (h : aL w 0 = some m) : aH w ≠ 2 ∧ aH w ≠ -1 ∧ ay m = ay w + 1 ∧ aH m = 1 := by
 have h : (if bZ w ∧ aH w ≠ 2 ∧ ay w < 2305843009213693951 then some (ay w + 1 + 2305843009213693952) else none) = some m := h
 split at h
 ·rename_i hc
  obtain ⟨c1, c2, c3⟩ := hc;have e := fg h
  have hr : bZ m = true := by
   unfold bZ;refine ia ?_;omega
  refine ⟨c2, ?_, ?_, ?_⟩
  ·unfold aH; rw [if_pos c1]; omega
  ·rw [ay, if_pos hr]; omega
  ·rw [aH, if_pos hr]; omega
 ·cases h
theorem ZN {w m : Nat} (h : aL w 2 = some m) : ay m = ay w ∧ aH m = 2 := by
 have h : (if aH w = 0 then some (ay w + 4611686018427387904) else none) = some m := h
 split at h
 ·have hl : ay w < 2305843009213693952 := by
   unfold ay
   split
   ·exact Nat.mod_lt _ (by omega)
   ·omega
  have e := fg h
  have hr : bZ m = true := by
   unfold bZ;refine ia ?_;omega
  refine ⟨?_, ?_⟩
  ·rw [ay, if_pos hr]; omega
  ·rw [aH, if_pos hr]; omega
 ·cases h
def cM (σ : az) (o : Nat) : Nat := (aw σ o).length
structure TE (G : wo) (E : List Ev) (len : Nat → Nat) (n : Nat) (t : Tk) : Prop where
 fnd : 6 ≤ t.at' ∨ t.at' = 5 ∧ t.found = true → Bl G E n t.who t.obj
 room : t.at' = 9 ∨ t.at' = 10 ∨ t.at' = 12 ∨ t.at' = 13 ∨ t.at' = 14 → ay t.w < len t.obj
 rest : t.at' = 12 ∨ t.at' = 13 → aH t.w ≠ 1
 mine : t.at' = 10 ∨ t.at' = 14 → G.cl t.obj (ay t.w) = some t.who
 link : t.at' = 14 ∨ 21 ≤ t.at' ∧ t.at' < 25 → G.lk t.obj = some t.who
def TK (G : wo) (E : List Ev) (len : Nat → Nat) (n : Nat) (t : Tk) : Prop :=
 (t.x.op = 3 → TE G E len n t) ∧ (t.x.op = 1 → t.at' = 5 → Bl G E n t.who t.obj)
structure Rm (G : wo) (E : List Ev) (len : Nat → Nat) (n : Nat) (G' : wo) (E' : List Ev) (len' : Nat → Nat) (n' : Nat) : Prop where
 ee : ∃ l, E' = E ++ l
 nn : n ≤ n'
 md : ∀ o, o < n → G'.md o = G.md o
 ll : ∀ o, o < n → len' o = len o
 cl : ∀ o k, G.cl o k ≠ none → G'.cl o k = G.cl o k
 lk : ∀ o, G.lk o ≠ none → G'.lk o = G.lk o
section
variable {G G' : wo} {E E' : List Ev} {len len' : Nat → Nat} {n n' o : Nat} {who : Int} {t : Tk} {x : Ev} {l : List Ev}
theorem Bl.mono (h : Bl G E n who o) (g : Rm G E len n G' E' len' n') : Bl G' E' n' who o := by
 obtain ⟨l, rfl⟩ := g.ee;obtain ⟨h0, k, h1, h2, h3⟩ := h.app (l := l);exact ⟨Nat.lt_of_lt_of_le h0 g.nn, k, h1, h2, by rw [g.md o h0]; exact h3⟩
theorem TK.mono (h : TK G E len n t) (g : Rm G E len n G' E' len' n') : TK G' E' len' n' t := by
 refine ⟨fun h3 => ?_, fun h1 h5 => (h.2 h1 h5).mono g⟩;have T := h.1 h3;refine ⟨fun q => (T.fnd q).mono g, fun q => ?_, T.rest, fun q => ?_, fun q => ?_⟩
 ·rw [g.ll _ (T.fnd (by omega)).1]; exact T.room q
 ·have := T.mine q
  rw [g.cl _ _ (by rw [this]; simp)]; exact this
 ·have := T.link q
  rw [g.lk _ (by rw [this]; simp)]; exact this
theorem Rm.refl : Rm G E len n G E len n := ⟨⟨[], by simp⟩, bf _, fun _ _ => rfl, fun _ _ => rfl, fun _ _ _ => rfl, fun _ _ => rfl⟩
theorem Rm.app (hl : ∀ o, len' o = len o) : Rm G E len n G (E ++ l) len' n := ⟨⟨l, rfl⟩, bf _, fun _ _ => rfl, fun o _ => hl o, fun _ _ _ => rfl, fun _ _ => rfl⟩
theorem TE.low (h : t.at' < 5 ∨ t.at' = 5 ∧ t.found = false) : TE G E len n t :=
 ⟨fun q => False.elim (by
  rcases h with h | ⟨h, h2⟩
  ·omega
  ·rcases q with q | ⟨_, q⟩
   ·omega
   ·rw [h2] at q; cases q), fun q => by omega, fun q => by omega, fun q => by omega, fun q => by omega⟩
theorem TE.mid (h : Bl G E n t.who t.obj) (hn : t.at' ≠ 9 ∧ t.at' ≠ 10 ∧ t.at' ≠ 12 ∧ t.at' ≠ 13 ∧ t.at' ≠ 14 ∧ (t.at' < 21 ∨ 25 ≤ t.at')) : TE G E len n t :=
 ⟨fun _ => h, fun q => by omega, fun q => by omega, fun q => by omega, fun q => by omega⟩
theorem TE.rm (h : Bl G E n t.who t.obj) (hr : ay t.w < len t.obj) (h2 : t.at' = 12 ∨ t.at' = 13 → aH t.w ≠ 1) (hn : t.at' ≠ 10 ∧ t.at' ≠ 14 ∧ t.at' < 21) : TE G E len n t :=
 ⟨fun _ => h, fun _ => hr, h2, fun q => by omega, fun q => by omega⟩
theorem TE.lnk (h : Bl G E n t.who t.obj) (hl : G.lk t.obj = some t.who) (hn : 21 ≤ t.at') : TE G E len n t :=
 ⟨fun _ => h, fun q => by omega, fun q => by omega, fun q => by omega, fun _ => hl⟩
theorem TE.own (h : Bl G E n t.who t.obj) (hr : ay t.w < len t.obj) (hc : G.cl t.obj (ay t.w) = some t.who) (hl : t.at' = 14 → G.lk t.obj = some t.who) (hn : t.at' = 10 ∨ t.at' = 14) : TE G E len n t :=
 ⟨fun _ => h, fun _ => hr, fun q => by omega, fun _ => hc, fun q => hl (by omega)⟩
end
def CZ (σ : az) (t : Tk) (r : az × Tk × Bool) : Prop :=
 ∀ G, RG G σ.μ.E σ.μ.V σ.obs.length → TK G σ.μ.E (cM σ) σ.obs.length t →
  ∃ G', RG G' r.1.μ.E r.1.μ.V r.1.obs.length ∧ Rm G σ.μ.E (cM σ) σ.obs.length G' r.1.μ.E (cM r.1) r.1.obs.length ∧ r.2.1.who = t.who ∧ (r.2.2 = false → TK G' r.1.μ.E (cM r.1) r.1.obs.length r.2.1)
structure Pla (x : Ev) (V V' : bC → Nat) : Prop where
 r : EvR x
 k : x.kind < 5
 l : x.loc.1 ≠ 13 ∧ x.loc.1 ≠ 14 ∧ x.loc.1 ≠ 16
 s : ∀ s i, V' (10, s, i) ≠ 0 → V' (10, s, i) = V (10, s, i) ∧ ¬ (x.loc = (10, s, i) ∧ sto x)
 w : ∀ o : Nat, V' (11, (o : Int), 0) = V (11, (o : Int), 0)
 h : ∀ o : Nat, V' (12, (o : Int), 0) = V (12, (o : Int), 0)
section
variable {G : wo} {E : List Ev} {V V' : bC → Nat} {n : Nat} {x : Ev} {who : Int}
theorem RG.pla (h : RG G E V n) (p : Pla x V V') : RG G (E ++ [x]) V' n :=
 h.ev p.r (fun _ _ _ => p.k) (fun q => absurd q p.l.1) (fun q => absurd q p.l.2.1) (fun q => absurd q p.l.2.2) (fun s i q => .inl (p.s s i q)) (fun o => by rw [p.w]; exact ⟨bf _, fun q => q⟩) p.h
theorem Wv (hw : 0 ≤ who ∧ who ≤ 3) (k : Int) (l : bC) (hk : 1 ≤ k ∧ k ≤ 6) : EvR ⟨who, k, l⟩ := ⟨⟨hw.1, by show who ≤ 63; omega⟩, hk⟩
theorem qq (hw : 0 ≤ who ∧ who ≤ 3) (k : Int) (l : bC) (hk : k = 1 ∨ k = 4 ∨ (k = 2 ∨ k = 3) ∧ l.1 ≠ 10) (hl : l.1 ≠ 13 ∧ l.1 ≠ 14 ∧ l.1 ≠ 16) : Pla ⟨who, k, l⟩ V V :=
 ⟨Wv hw k l (by omega), (by show k < 5; omega), hl, fun s i _ => ⟨rfl, fun q => by
  have e : l = (10, s, i) := q.1
  have e2 : l.1 = 10 := by rw [e]
  have q2 : k = 2 ∨ k = 3 := q.2
  omega⟩, fun _ => rfl, fun _ => rfl⟩
theorem lL (hw : 0 ≤ who ∧ who ≤ 3) (k : Int) (l : bC) (v : Nat) (hk : k = 2 ∨ k = 3) (hl : l.1 ≠ 13 ∧ l.1 ≠ 14 ∧ l.1 ≠ 16) (h10 : l.1 ≠ 10) (h11 : l.1 ≠ 11) (h12 : l.1 ≠ 12) : Pla ⟨who, k, l⟩ V (fun z => if z = l then v else V z) :=
 ⟨Wv hw k l (by omega), (by show k < 5; omega), hl, fun s i _ => ⟨if_neg (fun e => h10 (by rw [← e])), fun q => by
  have e : l = (10, s, i) := q.1
  exact h10 (by rw [e])⟩, fun _ => if_neg (fun e => h11 (by rw [← e])), fun _ => if_neg (fun e => h12 (by rw [← e]))⟩
theorem Qb (hw : 0 ≤ who ∧ who ≤ 3) (s i : Int) : Pla ⟨who, 2, (10, s, i)⟩ V (fun z => if z = (10, s, i) then 0 else V z) := by
 refine ⟨Wv hw 2 _ (by omega), (by show (2 : Int) < 5; omega), ⟨by simp, by simp, by simp⟩, fun s' i' q => ?_, fun _ => if_neg (by simp), fun _ => if_neg (by simp)⟩;have q : (if ((10 : Int), s', i') = (10, s, i) then 0 else V (10, s', i')) ≠ 0 := q
 by_cases e : ((10 : Int), s', i') = (10, s, i)
 ·rw [if_pos e] at q; exact absurd rfl q
 ·exact ⟨if_neg e, fun q2 => e q2.1.symm⟩
end
section
variable {σ : az} {t : Tk} {r : az × Tk × Bool}
theorem jh {σ' : az} (h : σ'.obs = σ.obs) : ∀ o, cM σ' o = cM σ o := fun o => by unfold cM aw; rw [h]
theorem Fd (hμ : r.1.μ = σ.μ) (ho : r.1.obs = σ.obs) (hw : r.2.1.who = t.who) (hT : r.2.2 = false → ∀ {G : wo}, TK G σ.μ.E (cM σ) σ.obs.length t → TK G σ.μ.E (cM σ) σ.obs.length r.2.1) : CZ σ t r := by
 intro G R T;have hl : cM r.1 = cM σ := funext (jh ho);rw [hμ, hl, ho];exact ⟨G, R, .refl, hw, fun h => hT h T⟩
theorem jP (who' kd : Int) (l : bC) (hE : r.1.μ.E = σ.μ.E ++ [⟨who', kd, l⟩]) (p : Pla ⟨who', kd, l⟩ σ.μ.V r.1.μ.V) (ho : r.1.obs = σ.obs) (hw : r.2.1.who = t.who)
 (hT : r.2.2 = false → ∀ {G : wo}, RG G σ.μ.E σ.μ.V σ.obs.length → TK G σ.μ.E (cM σ) σ.obs.length t → TK G (σ.μ.E ++ [⟨who', kd, l⟩]) (cM σ) σ.obs.length r.2.1) : CZ σ t r := by
 intro G R T;have hl : cM r.1 = cM σ := funext (jh ho);rw [hE, hl, ho];exact ⟨G, R.pla p, .app fun _ => rfl, hw, fun h => hT h R T⟩
theorem uG (μ : Mu) (who : Int) (l : bC) (a b : Nat) : (μ.swp who l a b).E = μ.E ++ [⟨who, if μ.V l = a then 3 else 4, l⟩] := by
 unfold Mu.swp Mu.swap
 split <;> rfl
theorem jD (μ : Mu) (who : Int) (l : bC) (a b : Nat) : (μ.swp who l a b).V = if μ.V l = a then (fun z => if z = l then b else μ.V z) else μ.V := by
 unfold Mu.swp Mu.swap
 split <;> rfl
theorem t6 {who : Int} (hw : 0 ≤ who ∧ who ≤ 3) (μ : Mu) (l : bC) (a b : Nat) (hl : l.1 ≠ 13 ∧ l.1 ≠ 14 ∧ l.1 ≠ 16) (h10 : l.1 ≠ 10) (h11 : l.1 ≠ 11) (h12 : l.1 ≠ 12) : Pla ⟨who, if μ.V l = a then 3 else 4, l⟩ μ.V (μ.swp who l a b).V := by
 rw [jD]
 split
 ·exact lL hw 3 l b (.inr rfl) hl h10 h11 h12
 ·exact qq hw 4 l (.inr (.inl rfl)) hl
theorem Xu {G : wo} (R : RG G σ.μ.E σ.μ.V σ.obs.length) (s i : Int) (who : Int) (hv : σ.μ.V (10, s, i) ≠ 0) : Bl G (σ.μ.E ++ [⟨who, 1, (10, s, i)⟩]) σ.obs.length who (σ.μ.V (10, s, i) % 4294967296) := by
 obtain ⟨q1, st, q2, q3, q4, q5, q6⟩ := R.sl s i hv;refine ⟨q1, σ.μ.E.length, by simp, by rw [fG], .fnd q6.app ⟨q2, by simp, by rw [fG]; exact .inl rfl, by rw [cU q2, fG]; exact q3, by rw [cU q2]; exact q4, fun m h1 h2 => ?_⟩⟩;rw [cU h2, fG];exact q5 m h1 h2
theorem G3 (h : (aA σ t).found = true) : σ.μ.V (10, t.s, (t.i : Int)) ≠ 0 ∧ (aA σ t).obj = σ.μ.V (10, t.s, (t.i : Int)) % 4294967296 := by
 have h2 : tK (σ.μ.V (10, t.s, (t.i : Int))) t.x.flow = true := h;refine ⟨(fun q => by rw [q] at h2; cases h2), ?_⟩;show (if tK (σ.μ.V (10, t.s, (t.i : Int))) t.x.flow = true then _ else _) = _;rw [if_pos h2]
end
section
variable {σ : az} {t : Tk}
theorem uA (hw : 0 ≤ t.who ∧ t.who ≤ 3) (ho : t.x.op = 3) (r : az × Tk × Bool) (at1 : Nat) (hat : at1 < 5 ∨ (aA σ t).found = true ∨ at1 = 5 ∧ (aA σ t).found = false) (hlo : at1 < 5 ∨ at1 = 5 ∨ at1 = 6) (c : Int)
 (hμ : r.1.μ = (bJ σ t).μ) (hob : r.1.obs = σ.obs) (he : r.2.1 = { aA σ t with at' := at1, code := c }) : CZ σ t r := by
 refine jP t.who 1 (10, t.s, (t.i : Int)) (by rw [hμ]) (by rw [hμ]; exact qq hw 1 _ (.inl rfl) ⟨by simp, by simp, by simp⟩) hob (by rw [he]; rfl) fun _ G R T => ?_;rw [he];refine ⟨fun _ => ?_, fun h1 => absurd (ho.symm.trans h1) (by simp)⟩
 by_cases hf : (aA σ t).found = true
 ·obtain ⟨h1, h2⟩ := G3 hf
  by_cases h5 : at1 < 5
  ·exact TE.low (.inl h5)
  ·refine TE.mid ?_ (by dsimp only; omega)
   show Bl G _ _ t.who (aA σ t).obj;rw [h2];exact Xu R _ _ _ h1
 ·refine TE.low ?_
  rcases hat with h | h | ⟨h, h2⟩
  ·exact .inl h
  ·exact absurd h hf
  ·exact .inr ⟨h, h2⟩
theorem sK {μ : Mu} {i w m : Nat} : cG μ i w (some m) = decide (μ.V (11, (i : Int), 0) = w) := by unfold cG; simp
theorem vy (o : Nat) : cM (dL σ t) o = cM σ o := by
 unfold cM aw dL;dsimp only;rw [List.getElem?_modify]
 split
 ·rename_i h
  subst h
  cases σ.obs[t.obj]? <;> simp
 ·cases σ.obs[o]? <;> simp
theorem VQ (hw : 0 ≤ t.who ∧ t.who ≤ 3) (ho : t.x.op = 3) (at1 at0 : Nat) (h9 : t.at' = 9 ∧ at1 = 10 ∨ t.at' = 13 ∧ at1 = 14) (h0 : at0 = 7 ∨ at0 = 20) (now : Int) (c : Int) :
 CZ σ t (if cG σ.μ t.obj t.w (aL t.w 0) = true then ((σ.mem (σ.μ.turn t.who t.obj t.w (aL t.w 0))).note now t.who 0, { t with at' := at1, code := c }, false) else (σ.mem (σ.μ.turn t.who t.obj t.w (aL t.w 0)), { t with at' := at0 }, false)) := by
 cases e : aL t.w 0 with
 | none =>
  rw [if_neg (by unfold cG; simp)];refine Fd rfl rfl rfl fun _ G T => ⟨fun h3 => ?_, fun h1 => absurd (ho.symm.trans h1) (by simp)⟩;exact TE.mid ((T.1 ho).fnd (by omega)) (by dsimp only; omega)
 | some m =>
  obtain ⟨m1, m2, m3, m4⟩ := KF e;rw [sK]
  by_cases hv : σ.μ.V (11, (t.obj : Int), 0) = t.w
  ·rw [if_pos (ia hv)]
   intro G R T;have T3 := T.1 ho;have hf := T3.fnd (by omega);have hr := T3.room (by omega)
   have hcn : G.cl t.obj (ay t.w) = none := by
    cases hc : G.cl t.obj (ay t.w) with
    | none => rfl
    | some a =>
     have := R.wc _ _ (by rw [hc]; simp);rw [hv] at this;omega
   -- the access
   have eE : (σ.μ.swp t.who (11, (t.obj : Int), 0) t.w m).E = σ.μ.E ++ [⟨t.who, 3, (11, (t.obj : Int), 0)⟩] := by rw [uG, if_pos hv]
   have eV : (σ.μ.swp t.who (11, (t.obj : Int), 0) t.w m).V = fun z => if z = (11, (t.obj : Int), 0) then m else σ.μ.V z := by rw [jD, if_pos hv]
   have R1 : RG G (σ.μ.E ++ [⟨t.who, 3, (11, (t.obj : Int), 0)⟩]) (fun z => if z = (11, (t.obj : Int), 0) then m else σ.μ.V z) σ.obs.length := by
    refine R.ev (Wv hw 3 _ (by omega)) (fun _ _ _ => (by show (3 : Int) < 5; omega)) (fun q => by simp at q) (fun q => by simp at q) (fun q => by simp at q) (fun s i q => .inl ⟨if_neg (by simp), fun q => by simp at q⟩) (fun o => ?_) (fun o => if_neg (by simp));show ay (σ.μ.V (11, (o : Int), 0)) ≤ ay (if ((11 : Int), (o : Int), (0 : Int)) = (11, (t.obj : Int), 0) then m else σ.μ.V (11, (o : Int), 0)) ∧ (_ → aH (if ((11 : Int), (o : Int), (0 : Int)) = (11, (t.obj : Int), 0) then m else σ.μ.V (11, (o : Int), 0)) ≠ 0)
    by_cases q : ((11 : Int), (o : Int), (0 : Int)) = (11, (t.obj : Int), 0)
    ·rw [if_pos q, q, hv]
     exact ⟨by omega, fun _ => by omega⟩
    ·rw [if_neg q]
     exact ⟨bf _, fun q => q⟩
   have Vo : (fun z => if z = ((11 : Int), (t.obj : Int), (0 : Int)) then m else σ.μ.V z) (11, (t.obj : Int), 0) = m := if_pos rfl;have R2 := R1.claim t.obj (ay t.w) t.who hcn (Nat.lt_of_lt_of_eq (Nat.lt_succ_self _) (m3.symm.trans (congrArg ay Vo.symm)));have ccl : (G.claim t.obj (ay t.w) t.who).cl t.obj (ay t.w) = some t.who := if_pos ⟨rfl, rfl⟩;have cle : ∀ o k, G.cl o k ≠ none → (G.claim t.obj (ay t.w) t.who).cl o k = G.cl o k := fun o k q => if_neg (fun p => q (by rw [p.1, p.2]; exact hcn));show ∃ G', RG G' (σ.μ.swp t.who (11, (t.obj : Int), 0) t.w m).E (σ.μ.swp t.who (11, (t.obj : Int), 0) t.w m).V σ.obs.length ∧ Rm G σ.μ.E (cM σ) σ.obs.length G' (σ.μ.swp t.who (11, (t.obj : Int), 0) t.w m).E (cM σ) σ.obs.length ∧ t.who = t.who ∧ (false = false → TK G' (σ.μ.swp t.who (11, (t.obj : Int), 0) t.w m).E (cM σ) σ.obs.length { t with at' := at1, code := c });rw [eE, eV];have hf' : Bl G (σ.μ.E ++ [⟨t.who, 3, (11, (t.obj : Int), 0)⟩]) σ.obs.length t.who t.obj := hf.app
   rcases h9 with ⟨a1, rfl⟩ | ⟨a1, rfl⟩
   ·exact ⟨_, R2, ⟨⟨_, rfl⟩, bf _, fun _ _ => rfl, fun _ _ => rfl, cle, fun _ _ => rfl⟩, rfl, fun _ => ⟨fun _ => TE.own hf' hr ccl (fun q => by simp at q) (.inl rfl), fun h1 => absurd (ho.symm.trans h1) (by simp)⟩⟩
   ·have hst : aH t.w = 0 := by
     have := T3.rest (.inr a1)
     have q : aH t.w = -1 ∨ aH t.w = 0 ∨ aH t.w = 1 ∨ aH t.w = 2 := by
      unfold aH
      split
      ·rename_i hr
       have := of_decide_eq_true hr;omega
      ·exact .inl rfl
     omega
    have hln : G.lk t.obj = none := by
     cases hc : G.lk t.obj with
     | none => rfl
     | some a =>
      have := R.wl _ (by rw [hc]; simp);rw [hv] at this;exact absurd hst this
    have R3 := R2.link t.obj t.who hln (fun q => by have q := (congrArg aH Vo).symm.trans q; rw [m4] at q; cases q);have clk : ((G.claim t.obj (ay t.w) t.who).link t.obj t.who).lk t.obj = some t.who := if_pos rfl;refine ⟨_, R3, ⟨⟨_, rfl⟩, bf _, fun _ _ => rfl, fun _ _ => rfl, cle, fun o q => ?_⟩, rfl, fun _ => ⟨fun _ => TE.own hf' hr ccl (fun _ => clk) (.inr rfl), fun h1 => absurd (ho.symm.trans h1) (by simp)⟩⟩;exact if_neg (fun p => q (by rw [p]; exact hln))
  ·rw [if_neg (by rw [hZ hv]; simp)]
   refine jP t.who 4 (11, (t.obj : Int), 0) (by show (σ.μ.swp t.who (11, (t.obj : Int), 0) t.w m).E = _; rw [uG, if_neg hv]) (by show Pla _ _ (σ.μ.swp t.who (11, (t.obj : Int), 0) t.w m).V; rw [jD, if_neg hv]; exact qq hw 4 _ (.inr (.inl rfl)) ⟨by simp, by simp, by simp⟩) rfl rfl fun _ G R T => ⟨fun h3 => ?_, fun h1 => absurd (ho.symm.trans h1) (by simp)⟩;exact TE.mid ((T.1 ho).fnd (by omega)).app (by dsimp only; omega)
theorem YE (hw : 0 ≤ t.who ∧ t.who ≤ 3) (ho : t.x.op = 3) (at1 : Nat) (h9 : t.at' = 10 ∧ at1 = 11 ∨ t.at' = 14 ∧ at1 = 21) : CZ σ t (dL σ t, { t with at' := at1 }, false) := by
 intro G R T;have T3 := T.1 ho;have hf := T3.fnd (by omega);have hr := T3.room (by omega);have hc := T3.mine (by omega);have hl : cM (dL σ t) = cM σ := funext vy;have hk : ay t.w % (aw σ t.obj).length = ay t.w := Nat.mod_eq_of_lt hr
 have hE : (dL σ t).μ.E = σ.μ.E ++ [⟨t.who, 6, (16, (t.obj : Int), ((ay t.w : Nat) : Int))⟩] := by
  unfold dL;dsimp only;rw [hk]
 have ho' : (dL σ t).obs.length = σ.obs.length := by unfold dL; simp
 have hV : (dL σ t).μ.V = σ.μ.V := rfl;show ∃ G', RG G' (dL σ t).μ.E (dL σ t).μ.V (dL σ t).obs.length ∧ Rm G σ.μ.E (cM σ) σ.obs.length G' (dL σ t).μ.E (cM (dL σ t)) (dL σ t).obs.length ∧ t.who = t.who ∧ (false = false → TK G' (dL σ t).μ.E (cM (dL σ t)) (dL σ t).obs.length { t with at' := at1 });rw [hE, hl, ho', hV];refine ⟨G, R.ev (Wv hw 6 _ (by omega)) (fun _ _ q => absurd rfl q) (fun q => by simp at q) (fun q => by simp at q) (fun _ => ⟨t.obj, ay t.w, rfl, hc⟩) (fun s i q => .inl ⟨rfl, fun q => by simp at q⟩) (fun o => ⟨bf _, fun q => q⟩) (fun o => rfl), .app fun _ => rfl, rfl, fun _ => ⟨fun _ => ?_, fun h1 => absurd (ho.symm.trans h1) (by simp)⟩⟩
 rcases h9 with ⟨a1, rfl⟩ | ⟨a1, rfl⟩
 ·exact TE.mid hf.app (by simp)
 ·exact TE.lnk hf.app (T3.link (.inl a1)) (by simp)
end
section
variable {σ : az} {t : Tk}
theorem ZM {G : wo} {E : List Ev} {len : Nat → Nat} {n : Nat} {t' : Tk} (ho : t'.x.op = 3) (h : TE G E len n t') : TK G E len n t' := ⟨fun _ => h, fun h1 => absurd (ho.symm.trans h1) (by simp)⟩
theorem nM (ho : t.x.op = 3) {r : az × Tk × Bool} (kd : Int) (l : bC) (hE : r.1.μ.E = σ.μ.E ++ [⟨t.who, kd, l⟩]) (p : Pla ⟨t.who, kd, l⟩ σ.μ.V r.1.μ.V) (hob : r.1.obs = σ.obs) (hw : r.2.1.who = t.who) (hx : r.2.1.x = t.x) (hj : r.2.1.obj = t.obj)
 (h6 : 6 ≤ t.at' ∨ t.at' = 5 ∧ t.found = true) (hn : r.2.2 = false → r.2.1.at' ≠ 9 ∧ r.2.1.at' ≠ 10 ∧ r.2.1.at' ≠ 12 ∧ r.2.1.at' ≠ 13 ∧ r.2.1.at' ≠ 14 ∧ (r.2.1.at' < 21 ∨ 25 ≤ r.2.1.at')) : CZ σ t r :=
 jP t.who kd l hE p hob hw fun hd G R T => ZM (by rw [hx]; exact ho) (TE.mid (by rw [hw, hj]; exact ((T.1 ho).fnd h6).app) (hn hd))
theorem Fc (ho : t.x.op = 3) {r : az × Tk × Bool} (kd : Int) (l : bC) (hE : r.1.μ.E = σ.μ.E ++ [⟨t.who, kd, l⟩]) (p : Pla ⟨t.who, kd, l⟩ σ.μ.V r.1.μ.V) (hob : r.1.obs = σ.obs) (hw : r.2.1.who = t.who) (hx : r.2.1.x = t.x)
 (hn : r.2.1.at' < 5) : CZ σ t r :=
 jP t.who kd l hE p hob hw fun hd G R T => ZM (by rw [hx]; exact ho) (TE.low (.inl hn))
theorem Ku (ho : t.x.op = 3) {r : az × Tk × Bool} (kd : Int) (l : bC) (hE : r.1.μ.E = σ.μ.E ++ [⟨t.who, kd, l⟩]) (p : Pla ⟨t.who, kd, l⟩ σ.μ.V r.1.μ.V) (hob : r.1.obs = σ.obs) (hw : r.2.1.who = t.who) (hx : r.2.1.x = t.x) (hj : r.2.1.obj = t.obj)
 (h6 : 21 ≤ t.at' ∧ t.at' < 25) (hn : 21 ≤ r.2.1.at') : CZ σ t r :=
 jP t.who kd l hE p hob hw fun hd G R T => ZM (by rw [hx]; exact ho) (TE.lnk (by rw [hw, hj]; exact ((T.1 ho).fnd (by omega)).app) (by rw [hw, hj]; exact (T.1 ho).link (.inr h6)) hn)
theorem YQ (ho : t.x.op = 3) {r : az × Tk × Bool} (kd : Int) (l : bC) (hE : r.1.μ.E = σ.μ.E ++ [⟨t.who, kd, l⟩]) (p : Pla ⟨t.who, kd, l⟩ σ.μ.V r.1.μ.V) (hob : r.1.obs = σ.obs) (hw : r.2.1.who = t.who) (hx : r.2.1.x = t.x) (hj : r.2.1.obj = t.obj) (hww : r.2.1.w = t.w)
 (h6 : 6 ≤ t.at') (hr : ∀ {G : wo}, RG G σ.μ.E σ.μ.V σ.obs.length → TE G σ.μ.E (cM σ) σ.obs.length t → ay t.w < cM σ t.obj) (h2 : ∀ {G : wo}, TE G σ.μ.E (cM σ) σ.obs.length t → r.2.1.at' = 12 ∨ r.2.1.at' = 13 → aH t.w ≠ 1) (hn : r.2.1.at' ≠ 10 ∧ r.2.1.at' ≠ 14 ∧ r.2.1.at' < 21) : CZ σ t r :=
 jP t.who kd l hE p hob hw fun hd G R T => ZM (by rw [hx]; exact ho) (TE.rm (by rw [hw, hj]; exact ((T.1 ho).fnd (.inl h6)).app) (by rw [hww, hj]; exact hr R (T.1 ho)) (by rw [hww]; exact h2 (T.1 ho)) hn)
theorem VB (hw : 0 ≤ t.who ∧ t.who ≤ 3) (ho : t.x.op = 3) (now : Int) : CZ σ t (ah σ t now) := by
 have L : ∀ (l : bC), l.1 ≠ 13 ∧ l.1 ≠ 14 ∧ l.1 ≠ 16 → Pla ⟨t.who, 1, l⟩ σ.μ.V σ.μ.V := fun l hl => qq hw 1 l (.inl rfl) hl;have n3 : ∀ {a b c : Int}, a ≠ 13 → a ≠ 14 → a ≠ 16 → ((a, b, c) : bC).1 ≠ 13 ∧ ((a, b, c) : bC).1 ≠ 14 ∧ ((a, b, c) : bC).1 ≠ 16 := fun h1 h2 h3 => ⟨h1, h2, h3⟩;unfold ah;dsimp only
 split
 ·rename_i hat
  split
  ·exact Fd rfl rfl rfl fun h => by cases h
  ·refine uA hw ho _ (if (aA σ t).found = true then 6 else if cz σ (aA σ t) = true then 3 else 2) ?_ ?_ t.code rfl rfl rfl
   ·split
    ·exact .inr (.inl (by assumption))
    ·left; split <;> omega
   ·split
    ·exact .inr (.inr rfl)
    ·left; split <;> omega
 ·refine uA hw ho _ (if (aA σ t).found = true then 6 else if cz σ (aA σ t) = true then 3 else 2) ?_ ?_ t.code rfl rfl rfl
  ·split
   ·exact .inr (.inl (by assumption))
   ·left; split <;> omega
  ·split
   ·exact .inr (.inr rfl)
   ·left; split <;> omega
 ·rename_i hat
  by_cases h0 : σ.μ.V (8, t.s, 0) = 0
  ·rw [if_pos h0]
   exact Fc ho _ _ (uG ..) (t6 hw σ.μ _ 0 1 (n3 (by omega) (by omega) (by omega)) (by simp) (by simp) (by simp)) rfl rfl rfl (by simp)
  ·rw [if_neg h0]
   exact Fc ho _ _ (uG ..) (t6 hw σ.μ _ 0 1 (n3 (by omega) (by omega) (by omega)) (by simp) (by simp) (by simp)) rfl rfl rfl (by show t.at' < 5; omega)
 ·rename_i hat
  split
  ·rename_i hf
   exact uA hw ho _ 5 (.inr (.inl hf)) (.inr (.inl rfl)) t.code rfl rfl rfl
  ·rename_i hf
   split
   ·exact uA hw ho _ 5 (.inr (.inr ⟨rfl, by simpa using hf⟩)) (.inr (.inl rfl)) 5 rfl rfl rfl
   ·exact uA hw ho _ 4 (.inl (by omega)) (.inl (by omega)) t.code rfl rfl (by rw [show (aA σ t) = { aA σ t with at' := (aA σ t).at', code := (aA σ t).code } from rfl, show (aA σ t).at' = 4 from hat]; rfl)
 ·rename_i hat
  refine jP t.who 2 (8, t.s, 0) rfl (lL hw 2 _ 0 (.inl rfl) (n3 (by omega) (by omega) (by omega)) (by simp) (by simp) (by simp)) rfl rfl fun hd G R T => ZM ho (TE.mid ((T.1 ho).fnd (.inr ⟨hat, by simpa using hd⟩)).app (by simp))
 ·rename_i hat
  intro G R T;have hf := (T.1 ho).fnd (.inl (by omega));exact ⟨G, R.ev (Wv hw 5 _ (by omega)) (fun q => absurd rfl q) (fun _ => ⟨t.obj, rfl, rfl, hf⟩) (fun q => by simp at q) (fun q => by simp at q) (fun s i q => .inl ⟨rfl, fun q => by simp at q⟩) (fun o => ⟨bf _, fun q => q⟩) (fun o => rfl), .app fun _ => rfl, rfl, fun _ => ZM ho (TE.mid hf.app (by simp))⟩
 ·rename_i hat
  by_cases h2 : aH (σ.μ.V (11, (t.obj : Int), 0)) = 2
  ·rw [if_pos h2]
   exact Fc ho 1 _ rfl (L _ (n3 (by omega) (by omega) (by omega))) rfl rfl rfl (by simp)
  ·rw [if_neg h2]
   exact nM ho 1 _ rfl (L _ (n3 (by omega) (by omega) (by omega))) rfl rfl rfl rfl (by omega) (by simp)
 ·rename_i hat
  by_cases hfu : fU σ t = true
  ·rw [if_pos hfu]
   exact nM ho 1 _ rfl (L _ (n3 (by omega) (by omega) (by omega))) rfl rfl rfl rfl (by omega) (by simp)
  ·rw [if_neg hfu]
   refine YQ ho 1 _ rfl (L _ (n3 (by omega) (by omega) (by omega))) rfl rfl rfl rfl rfl (by omega) (fun R _ => ?_) ?_ ?_
   ·have hq : fU σ t = false := by simpa using hfu
    unfold fU kQ at hq;have hq := of_decide_eq_false hq;rw [R.hd] at hq;unfold cM;omega
   ·dsimp only
    split
    ·intro _ q; omega
    ·exact fun _ _ => by assumption
   ·dsimp only
    split <;> omega
 ·rename_i hat
  exact VQ hw ho 10 7 (.inl ⟨hat, rfl⟩) (.inl rfl) now 0
 ·rename_i hat
  exact YE hw ho 11 (.inl ⟨hat, rfl⟩)
 ·exact jP t.who 2 _ rfl (lL hw 2 _ _ (.inl rfl) (n3 (by omega) (by omega) (by omega)) (by simp) (by simp) (by simp)) rfl rfl (fun h => by cases h)
 ·rename_i hat
  exact YQ ho 3 _ rfl (lL hw 3 _ _ (.inr rfl) (n3 (by omega) (by omega) (by omega)) (by simp) (by simp) (by simp)) rfl rfl rfl rfl rfl (by omega) (fun _ T => T.room (by omega)) (fun T _ => T.rest (.inl hat)) (by simp)
 ·rename_i hat
  exact VQ hw ho 14 20 (.inr ⟨hat, rfl⟩) (.inr rfl) now 0
 ·rename_i hat
  exact YE hw ho 21 (.inr ⟨hat, rfl⟩)
 ·rename_i hat
  refine nM ho 1 _ rfl (L _ (n3 (by omega) (by omega) (by omega))) rfl rfl rfl rfl (by omega) fun _ => ?_;dsimp only
  split <;> omega
 ·rename_i hat
  by_cases h2 : aH (σ.μ.V (11, (t.obj : Int), 0)) = 2
  ·rw [if_pos h2]
   exact Fc ho 1 _ rfl (L _ (n3 (by omega) (by omega) (by omega))) rfl rfl rfl (by simp)
  ·rw [if_neg h2]
   exact nM ho 1 _ rfl (L _ (n3 (by omega) (by omega) (by omega))) rfl rfl rfl rfl (by omega) (by simp)
 ·rename_i hat
  by_cases hfu : fU σ t = true
  ·rw [if_pos hfu]
   exact nM ho 1 _ rfl (L _ (n3 (by omega) (by omega) (by omega))) rfl rfl rfl rfl (by omega) (by simp)
  ·rw [if_neg hfu]
   exact nM ho 1 _ rfl (L _ (n3 (by omega) (by omega) (by omega))) rfl rfl rfl rfl (by omega) (by simp)
 ·rename_i hat
  split
  ·exact jP t.who 1 _ rfl (L _ (n3 (by omega) (by omega) (by omega))) rfl rfl (fun h => by cases h)
  ·exact nM ho 1 _ rfl (L _ (n3 (by omega) (by omega) (by omega))) rfl rfl rfl rfl (by omega) (by simp)
 ·rename_i hat
  exact nM ho 3 _ rfl (lL hw 3 _ _ (.inr rfl) (n3 (by omega) (by omega) (by omega)) (by simp) (by simp) (by simp)) rfl rfl rfl rfl (by omega) (by simp)
 ·rename_i hat
  exact Ku ho 2 _ rfl (lL hw 2 _ _ (.inl rfl) (n3 (by omega) (by omega) (by omega)) (by simp) (by simp) (by simp)) rfl rfl rfl rfl (by omega) (by simp)
 ·rename_i hat
  exact Ku ho 1 _ rfl (L _ (n3 (by omega) (by omega) (by omega))) rfl rfl rfl rfl (by omega) (by simp)
 ·rename_i hat
  intro G R T;have hf := (T.1 ho).fnd (.inl (by omega));have hl := (T.1 ho).link (.inr (by omega));exact ⟨G, R.ev (Wv hw 6 _ (by omega)) (fun _ q => absurd rfl q) (fun q => by simp at q) (fun _ => ⟨t.obj, rfl, hl⟩) (fun q => by simp at q) (fun s i q => .inl ⟨rfl, fun q => by simp at q⟩) (fun o => ⟨bf _, fun q => q⟩) (fun o => rfl), .app fun _ => rfl, rfl, fun _ => ZM ho (TE.lnk hf.app hl (by simp))⟩
 ·rename_i hat
  by_cases h0 : σ.μ.V (9, t.s, 0) = t.top
  ·rw [if_pos h0]
   exact nM ho _ _ (uG ..) (t6 hw σ.μ _ _ _ (n3 (by omega) (by omega) (by omega)) (by simp) (by simp) (by simp)) rfl rfl rfl rfl (by omega) (by simp)
  ·rw [if_neg h0]
   exact Ku ho _ _ (uG ..) (t6 hw σ.μ _ _ _ (n3 (by omega) (by omega) (by omega)) (by simp) (by simp) (by simp)) rfl rfl rfl rfl (by omega) (by simp)
 ·exact jP t.who 3 _ rfl (lL hw 3 _ _ (.inr rfl) (n3 (by omega) (by omega) (by omega)) (by simp) (by simp) (by simp)) rfl rfl (fun h => by cases h)
theorem tk0 {G : wo} {E : List Ev} {len : Nat → Nat} {n : Nat} {t' : Tk} (ho : t'.x.op ≠ 3) (h : t'.x.op = 1 → t'.at' ≠ 5) : TK G E len n t' := ⟨fun h3 => absurd h3 ho, fun h1 h5 => absurd h5 (h h1)⟩
theorem Fe (ho : t.x.op ≠ 3) {r : az × Tk × Bool} (kd : Int) (l : bC) (hE : r.1.μ.E = σ.μ.E ++ [⟨t.who, kd, l⟩]) (p : Pla ⟨t.who, kd, l⟩ σ.μ.V r.1.μ.V) (hob : r.1.obs = σ.obs) (hw : r.2.1.who = t.who) (hx : r.2.1.x = t.x)
 (hn : t.x.op = 1 → r.2.1.at' ≠ 5) : CZ σ t r :=
 jP t.who kd l hE p hob hw fun hd G R T => tk0 (by rw [hx]; exact ho) (by rw [hx]; exact hn)
theorem VD (hw : 0 ≤ t.who ∧ t.who ≤ 3) (ho : t.x.op ≠ 3) (hn : σ.obs.length < 4294967296) (now : Int) : CZ σ t (NB σ t now) := by
 have L : ∀ (l : bC), l.1 ≠ 13 ∧ l.1 ≠ 14 ∧ l.1 ≠ 16 → Pla ⟨t.who, 1, l⟩ σ.μ.V σ.μ.V := fun l hl => qq hw 1 l (.inl rfl) hl;have n3 : ∀ {a b c : Int}, a ≠ 13 → a ≠ 14 → a ≠ 16 → ((a, b, c) : bC).1 ≠ 13 ∧ ((a, b, c) : bC).1 ≠ 14 ∧ ((a, b, c) : bC).1 ≠ 16 := fun h1 h2 h3 => ⟨h1, h2, h3⟩
 have lock : CZ σ t (Uq σ t) := by
  refine Fe ho _ _ (uG ..) (t6 hw σ.μ (8, t.s, 0) 0 1 (n3 (by omega) (by omega) (by omega)) (by simp) (by simp) (by simp)) rfl rfl rfl fun _ => ?_;show (if _ then 3 else 2 : Nat) ≠ 5
  split <;> omega
 have out : CZ σ t (Fk σ t, t, true) := jP t.who 2 (8, t.s, 0) rfl (lL hw 2 _ 0 (.inl rfl) (n3 (by omega) (by omega) (by omega)) (by simp) (by simp) (by simp)) rfl rfl (fun h => by cases h);unfold NB
 split
 ·split
  ·exact Fd rfl rfl rfl fun h => by cases h
  ·exact lock
 ·exact lock
 ·rename_i hat
  dsimp only
  have sc : ∀ (r : az × Tk × Bool) (a : Nat), a ≠ 5 → r.1.μ = (bJ σ t).μ → r.1.obs = σ.obs → r.2.1.who = t.who → r.2.1.x = t.x → r.2.1.at' = a → CZ σ t r := fun r a ha h1 h2 h3 h4 h5 =>
   Fe ho 1 (10, t.s, (t.i : Int)) (by rw [h1]) (by rw [h1]; exact L _ (n3 (by omega) (by omega) (by omega))) h2 h3 h4 (fun _ => by rw [h5]; exact ha)
  split
  ·split
   ·exact sc _ 6 (by omega) rfl rfl rfl rfl rfl
   ·exact sc _ 4 (by omega) rfl rfl rfl rfl rfl
  ·split
   ·split
    ·split
     ·exact sc _ 6 (by omega) rfl rfl rfl rfl rfl
     ·exact sc _ 4 (by omega) rfl rfl rfl rfl rfl
    ·exact sc _ 10 (by omega) rfl rfl rfl rfl rfl
   ·exact sc _ 3 (by omega) rfl rfl rfl rfl hat
 ·split
  ·rename_i h1
   unfold aa1
   split
   ·rename_i hat
    intro G R T;have R1 := R.make t.who hw
    have hlen : (σ.obs ++ [(UJ σ t, List.replicate (cW (UJ σ t).most) EG)]).length = σ.obs.length + 1 := by simp
    show ∃ G', RG G' (σ.μ.E ++ [⟨t.who, 6, (13, (σ.obs.length : Int), 0)⟩]) σ.μ.V (σ.obs ++ [(UJ σ t, List.replicate (cW (UJ σ t).most) EG)]).length ∧ Rm G σ.μ.E (cM σ) σ.obs.length G' (σ.μ.E ++ [⟨t.who, 6, (13, (σ.obs.length : Int), 0)⟩]) (cM (σ.make t.who (UJ σ t))) (σ.obs ++ [(UJ σ t, List.replicate (cW (UJ σ t).most) EG)]).length ∧ t.who = t.who ∧ (false = false → TK G' (σ.μ.E ++ [⟨t.who, 6, (13, (σ.obs.length : Int), 0)⟩]) (cM (σ.make t.who (UJ σ t))) (σ.obs ++ [(UJ σ t, List.replicate (cW (UJ σ t).most) EG)]).length { t with obj := σ.obs.length, at' := 5 });rw [hlen];refine ⟨_, R1, ⟨⟨_, rfl⟩, by omega, fun o h => if_neg (by omega), fun o h => ?_, fun _ _ _ => rfl, fun _ _ => rfl⟩, rfl, fun _ => ⟨fun h3 => absurd h3 ho, fun _ _ => ?_⟩⟩
    ·unfold cM aw
     show ((((σ.obs ++ [_])[o]?).map _).getD []).length = _;rw [List.getElem?_append_left h]
    ·refine ⟨by show σ.obs.length < _; omega, σ.μ.E.length, by simp, by rw [fG], ?_⟩
     have e : (G.make σ.obs.length σ.μ.E.length).md σ.obs.length = σ.μ.E.length := if_pos rfl;show HB _ ((G.make σ.obs.length σ.μ.E.length).md σ.obs.length) _;rw [e];exact .refl _
   ·rename_i hat
    intro G R T;have hb := T.2 h1 hat;have hob := hb.1;refine ⟨G, R.ev (x := ⟨t.who, 2, (10, t.s, t.mark)⟩) (Wv hw 2 _ (by omega)) (fun _ _ _ => (by show (2 : Int) < 5; omega)) (fun q => by simp at q) (fun q => by simp at q) (fun q => by simp at q) (fun s i q => ?_) (fun o => ?_) (fun o => ?_), .app fun _ => rfl, rfl, fun _ => tk0 ho (fun _ => by show (6 : Nat) ≠ 5; omega)⟩
    ·have q : (if ((10 : Int), s, i) = (10, t.s, t.mark) then cS t.x.flow t.obj else σ.μ.V (10, s, i)) ≠ 0 := q
     show ((if ((10 : Int), s, i) = (10, t.s, t.mark) then cS t.x.flow t.obj else σ.μ.V (10, s, i)) = _ ∧ _) ∨ (_ ∧ _ ∧ Bl G σ.μ.E σ.obs.length t.who ((if ((10 : Int), s, i) = (10, t.s, t.mark) then cS t.x.flow t.obj else σ.μ.V (10, s, i)) % 4294967296))
     by_cases e : ((10 : Int), s, i) = (10, t.s, t.mark)
     ·rw [if_pos e, qw (by omega)]
      exact .inr ⟨e.symm, .inl rfl, hb⟩
     ·rw [if_neg e]
      exact .inl ⟨rfl, fun q => e q.1.symm⟩
    ·show ay (σ.μ.V (11, (o : Int), 0)) ≤ ay (if ((11 : Int), (o : Int), (0 : Int)) = (10, t.s, t.mark) then cS t.x.flow t.obj else σ.μ.V (11, (o : Int), 0)) ∧ (_ → aH (if ((11 : Int), (o : Int), (0 : Int)) = (10, t.s, t.mark) then cS t.x.flow t.obj else σ.μ.V (11, (o : Int), 0)) ≠ 0)
     rw [if_neg (by simp)];exact ⟨bf _, fun q => q⟩
    ·show (if ((12 : Int), (o : Int), (0 : Int)) = (10, t.s, t.mark) then cS t.x.flow t.obj else σ.μ.V (12, (o : Int), 0)) = _
     exact if_neg (by simp)
   ·exact out
  ·rename_i h1
   have ld : ∀ (r : az × Tk × Bool) (l : bC), l.1 ≠ 13 ∧ l.1 ≠ 14 ∧ l.1 ≠ 16 → r.1.μ = σ.μ.acc t.who 1 l → r.1.obs = σ.obs → r.2.1.who = t.who → r.2.1.x = t.x → CZ σ t r := fun r l hl h1' h2 h3 h4 =>
    Fe ho 1 l (by rw [h1']) (by rw [h1']; exact L l hl) h2 h3 h4 (fun q => absurd q h1)
   unfold Z9
   split
   ·exact ld _ (11, (t.obj : Int), 0) (n3 (by omega) (by omega) (by omega)) rfl rfl rfl rfl
   ·exact ld _ (2, 0, 0) (n3 (by omega) (by omega) (by omega)) rfl rfl rfl rfl
   ·exact ld _ (11, (t.obj : Int), 0) (n3 (by omega) (by omega) (by omega)) rfl rfl rfl rfl
   ·split
    ·exact ld _ (2, 0, 0) (n3 (by omega) (by omega) (by omega)) rfl rfl rfl rfl
    ·exact ld _ (2, 0, 0) (n3 (by omega) (by omega) (by omega)) rfl rfl rfl rfl
   ·have tw : ∀ (r : az × Tk × Bool), r.1.μ = σ.μ.turn t.who t.obj t.w (aL t.w 2) → r.1.obs = σ.obs → r.2.1.who = t.who → r.2.1.x = t.x → CZ σ t r := by
     intro r h1' h2 h3 h4 G R T;have hl : cM r.1 = cM σ := funext (jh h2);have hT : ∀ {G : wo} {E : List Ev}, TK G E (cM σ) σ.obs.length r.2.1 := tk0 (by rw [h4]; exact ho) (fun q => absurd (by rw [h4] at q; exact q) h1);rw [h1', hl, h2]
     cases e : aL t.w 2 with
     | none => exact ⟨G, R, .refl, h3, fun _ => hT⟩
     | some m =>
      obtain ⟨m1, m2⟩ := ZN e;show ∃ G', RG G' (σ.μ.swp t.who (11, (t.obj : Int), 0) t.w m).E (σ.μ.swp t.who (11, (t.obj : Int), 0) t.w m).V _ ∧ Rm _ _ _ _ G' (σ.μ.swp t.who (11, (t.obj : Int), 0) t.w m).E _ _ ∧ _ ∧ _;refine ⟨G, ?_, by rw [uG]; exact .app fun _ => rfl, h3, fun _ => hT⟩;rw [uG, jD]
      by_cases hv : σ.μ.V (11, (t.obj : Int), 0) = t.w
      ·rw [if_pos hv, if_pos hv]
       refine R.ev (Wv hw 3 _ (by omega)) (fun _ _ _ => (by show (3 : Int) < 5; omega)) (fun q => by simp at q) (fun q => by simp at q) (fun q => by simp at q) (fun s i q => .inl ⟨if_neg (by simp), fun q => by simp at q⟩) (fun o => ?_) (fun o => if_neg (by simp));show ay (σ.μ.V (11, (o : Int), 0)) ≤ ay (if ((11 : Int), (o : Int), (0 : Int)) = (11, (t.obj : Int), 0) then m else σ.μ.V (11, (o : Int), 0)) ∧ (_ → aH (if ((11 : Int), (o : Int), (0 : Int)) = (11, (t.obj : Int), 0) then m else σ.μ.V (11, (o : Int), 0)) ≠ 0)
       by_cases q : ((11 : Int), (o : Int), (0 : Int)) = (11, (t.obj : Int), 0)
       ·rw [if_pos q, q, hv]
        exact ⟨by omega, fun _ => by omega⟩
       ·rw [if_neg q]
        exact ⟨bf _, fun q => q⟩
      ·rw [if_neg hv, if_neg hv]
       exact R.pla (qq hw 4 _ (.inr (.inl rfl)) (n3 (by omega) (by omega) (by omega)))
    dsimp only
    split
    ·exact tw _ rfl rfl rfl rfl
    ·exact tw _ rfl rfl rfl rfl
   ·exact Fe ho 2 _ rfl (Qb hw _ _) rfl rfl rfl (fun q => absurd q h1)
   ·exact out
theorem Vz (hw : 0 ≤ t.who ∧ t.who ≤ 3) (hn : σ.obs.length < 4294967296) (now : Int) : CZ σ t (pJ σ t now) := by
 by_cases ho : t.x.op = 3
 ·rw [show pJ σ t now = ah σ t now from if_pos ho]
  exact VB hw ho now
 ·rw [show pJ σ t now = NB σ t now from if_neg ho]
  exact VD hw ho hn now
end
def RI (σ : az) (tk : Nat → Option Tk) : Prop := ∃ G, RG G σ.μ.E σ.μ.V σ.obs.length ∧ ∀ w t, w < 4 → tk w = some t → t.who = w ∧ TK G σ.μ.E (cM σ) σ.obs.length t
theorem RI.step {σ : az} {tk : Nat → Option Tk} {w : Nat} {t : Tk} {r : az × Tk × Bool} (h : RI σ tk) (hw : w < 4) (ht : tk w = some t) (st : 0 ≤ t.who ∧ t.who ≤ 3 → CZ σ t r) :
 RI r.1 (fun k => if k = w then (if r.2.2 = true then none else some r.2.1) else tk k) := by
 obtain ⟨G, R, T⟩ := h;obtain ⟨h1, h2⟩ := T w t hw ht;obtain ⟨G', R', g, h3, h4⟩ := st (by omega) G R h2;refine ⟨G', R', fun w' t' hw' j0 => ?_⟩;dsimp only at j0
 by_cases e : w' = w
 ·subst e
  rw [if_pos rfl] at j0;cases hd : r.2.2
  ·rw [hd, if_neg (by simp)] at j0
   cases j0;exact ⟨by rw [h3]; exact h1, h4 hd⟩
  ·rw [hd, if_pos rfl] at j0; cases j0
 ·rw [if_neg e] at j0
  obtain ⟨k1, k2⟩ := T w' t' hw' j0;exact ⟨k1, k2.mono g⟩
theorem RI.new {σ : az} {tk : Nat → Option Tk} {w : Nat} {t : Tk} (h : RI σ tk) (hw : t.who = w) (h0 : t.at' = 0) : RI σ (fun k => if k = w then some t else tk k) := by
 obtain ⟨G, R, T⟩ := h;refine ⟨G, R, fun w' t' hw' j0 => ?_⟩;dsimp only at j0
 by_cases e : w' = w
 ·subst e
  rw [if_pos rfl] at j0;cases j0;exact ⟨hw, fun _ => TE.low (.inl (by omega)), fun _ h5 => by omega⟩
 ·rw [if_neg e] at j0
  exact T w' t' hw' j0
theorem RG.made {c : eR} (hc : bM c = true) : ∀ n, n ≤ 16 → ∃ G, RG G (az.made c n).μ.E (az.made c n).μ.V (az.made c n).obs.length := by
 intro n
 induction n with
 | zero =>
  exact fun _ => ⟨⟨fun _ => 0, fun _ _ => none, fun _ => none⟩, (fun x hx => by cases hx), (fun x hx => by cases hx), (fun j hj => by cases hj), (fun s i q => absurd rfl q), (fun x hx => by cases hx), (fun x hx => by cases hx), (fun _ _ q => absurd rfl q), (fun _ q => absurd rfl q), fun _ => rfl⟩
 | succ n ih =>
  intro hn;obtain ⟨G, R⟩ := ih (by omega);have hm := rZ c n;unfold az.made
  split
  ·have R1 := R.make 0 ⟨by omega, by omega⟩
   obtain ⟨s0, hs0⟩ : ∃ s0, s0 = ((n : Nat) : Int).tmod (az.made c n).c.sh := ⟨_, rfl⟩;obtain ⟨i0, hi0⟩ : ∃ i0, i0 = ((n : Nat) : Int).tdiv (az.made c n).c.sh := ⟨_, rfl⟩;obtain ⟨o0, ho0⟩ : ∃ o0, o0 = (az.made c n).obs.length := ⟨_, rfl⟩
   have hlen : ((az.made c n).lay (n : Int) (1 + (n : Int)) (2 + (n : Int).tmod 2)).obs.length = (az.made c n).obs.length + 1 := by simp [az.lay, az.make]
   have e : ((G.make (az.made c n).obs.length (az.made c n).μ.E.length).md (az.made c n).obs.length) = (az.made c n).μ.E.length := if_pos rfl;refine ⟨G.make (az.made c n).obs.length (az.made c n).μ.E.length, ?_⟩;rw [hlen];show RG _ ((az.made c n).μ.E ++ [⟨0, 6, (13, ((az.made c n).obs.length : Int), 0)⟩] ++ [⟨0, 2, (10, ((n : Nat) : Int).tmod (az.made c n).c.sh, ((n : Nat) : Int).tdiv (az.made c n).c.sh)⟩]) (fun z => if z = (10, ((n : Nat) : Int).tmod (az.made c n).c.sh, ((n : Nat) : Int).tdiv (az.made c n).c.sh) then cS n (az.made c n).obs.length else (az.made c n).μ.V z) _;rw [← hs0, ← hi0]
   have hb : Bl (G.make (az.made c n).obs.length (az.made c n).μ.E.length) ((az.made c n).μ.E ++ [⟨0, 6, (13, ((az.made c n).obs.length : Int), 0)⟩]) ((az.made c n).obs.length + 1) 0 (az.made c n).obs.length :=
    ⟨by omega, (az.made c n).μ.E.length, by simp, by rw [fG], by rw [e]; exact .refl _⟩
   refine R1.ev (Wv ⟨by omega, by omega⟩ 2 _ (by omega)) (fun _ _ _ => (by show (2 : Int) < 5; omega)) (fun q => by simp at q) (fun q => by simp at q) (fun q => by simp at q) (fun s i q => ?_) (fun o => ?_) (fun o => if_neg (by simp))
   ·have q : (if ((10 : Int), s, i) = (10, s0, i0) then cS n (az.made c n).obs.length else (az.made c n).μ.V (10, s, i)) ≠ 0 := q
    show ((if ((10 : Int), s, i) = (10, s0, i0) then cS n (az.made c n).obs.length else (az.made c n).μ.V (10, s, i)) = _ ∧ _) ∨ (_ ∧ _ ∧ Bl _ _ _ 0 ((if ((10 : Int), s, i) = (10, s0, i0) then cS n (az.made c n).obs.length else (az.made c n).μ.V (10, s, i)) % 4294967296))
    by_cases q2 : ((10 : Int), s, i) = (10, s0, i0)
    ·rw [if_pos q2, qw (by omega)]
     exact .inr ⟨q2.symm, .inl rfl, hb⟩
    ·rw [if_neg q2]
     exact .inl ⟨rfl, fun q => q2 q.1.symm⟩
   ·show ay ((az.made c n).μ.V (11, (o : Int), 0)) ≤ ay (if ((11 : Int), (o : Int), (0 : Int)) = (10, s0, i0) then cS n (az.made c n).obs.length else (az.made c n).μ.V (11, (o : Int), 0)) ∧ (_ → aH (if ((11 : Int), (o : Int), (0 : Int)) = (10, s0, i0) then cS n (az.made c n).obs.length else (az.made c n).μ.V (11, (o : Int), 0)) ≠ 0)
    rw [if_neg (by simp)];exact ⟨bf _, fun q => q⟩
  ·exact ⟨G, R⟩
def dA (n : Nat) (st lt : Bool) (i a : Nat) : Nat := match a with
 | 0 => 13 + 2 * n | 2 => 13 + n + (n - i) | 3 => 13 + n | 4 => 12 + (n - i) | 5 => 12 | 6 => 11 | 7 => 10
 | 8 => if st then 14 else 9 | 9 => if st then 11 else 3 | 10 => 2 | 11 => 1 | 12 => if st then 13 else 8 | 13 => if st then 12 else 7 | 14 => 6
 | 15 => 4 | 16 => 3 | 17 => 2 | 18 => 1 | 20 => 11 | 21 => 5 | 22 => 4 | 23 => if lt then 6 else 3 | 24 => if lt then 5 else 2 | _ => 1
def eA (n : Nat) (i a : Nat) : Nat := match a with
 | 0 => n + 13 | 2 => n + 13 | 3 => n + 13 | 4 => n - i + 12 | 5 => 12 | 6 => 11 | 7 => 11 | 8 => 11 | 9 => 11 | 12 => 11 | 13 => 11 | 15 => 11 | 16 => 11 | 17 => 11 | 18 => 11 | 20 => 11
 | 14 => 3 | 21 => 3 | 22 => 3 | 23 => 3 | 24 => 3 | _ => 0
theorem RV (n : Nat) (st lt : Bool) (i a : Nat) : 1 ≤ dA n st lt i a := by
 unfold dA
 split <;> first | omega | (split <;> omega)
theorem aaC (n : Nat) (st st' lt : Bool) (i a : Nat) : dA n st' lt i a ≤ dA n st lt i a + 8 := by
 cases st <;> cases st' <;> (unfold dA; split <;> simp)
theorem aaB (n : Nat) (st lt yx : Bool) (i a : Nat) : dA n st yx i a ≤ dA n st lt i a + 3 := by
 cases lt <;> cases yx <;> (unfold dA; split <;> simp)
theorem aaA (n : Nat) (st lt : Bool) (i a : Nat) : dA n st lt i a ≤ 14 + 2 * n := by
 cases st <;> cases lt <;> (unfold dA; split <;> first | omega | (simp; done) | (simp; omega))
theorem aaD (n : Nat) (i a : Nat) : eA n i a ≤ n + 13 := by
 unfold eA
 split <;> omega
def wj (σ : az) (t : Tk) : Bool := decide (σ.μ.V (11, (t.obj : Int), 0) ≠ t.w)
def z6 (σ : az) (t : Tk) : Bool := decide (σ.μ.V (9, t.s, 0) ≠ t.top)
def dT (n : Nat) (σ : az) (t : Tk) : Nat := dA n (wj σ t) (z6 σ t) t.i t.at'
def kc (n : Nat) (t : Tk) : Nat := eA n t.i t.at'
def kf (n : Nat) (r : az × Tk × Bool) : Nat := if r.2.2 = true then 0 else kc n r.2.1
def uE (σ : az) (t : Tk) : Prop := t.at' = 3 ∧ σ.μ.V (8, t.s, 0) ≠ 0
def iQ (t : Tk) : Prop := t.at' = 4 ∨ t.at' = 5
structure Sfs (σ : az) : Prop where
 v2 : σ.μ.V (2, 0, 0) = 0
 wr : ∀ o : Nat, bZ (σ.μ.V (11, (o : Int), 0)) = true ∧ aH (σ.μ.V (11, (o : Int), 0)) ≠ 2
 hd : ∀ o : Nat, σ.μ.V (12, (o : Int), 0) = 0
structure KU (σ : az) (t : Tk) : Prop where
 q : t.at' = 16 ∨ t.at' = 17 ∨ t.at' = 18 → t.q = 0
 cw : t.at' = 8 → ay t.w ≤ ay (σ.μ.V (11, (t.obj : Int), 0))
 fl : t.at' = 15 ∨ t.at' = 16 → cM σ t.obj ≤ ay (σ.μ.V (11, (t.obj : Int), 0))
 fw : t.at' = 17 → cM σ t.obj ≤ ay t.w
 rm : t.at' = 9 ∨ t.at' = 12 ∨ t.at' = 13 → ay t.w < cM σ t.obj
structure PotR (n : Nat) (σ : az) (t : Tk) (r : az × Tk × Bool) : Prop where
 own : uE σ t ∨ r.2.2 = true ∨ dT n r.1 r.2.1 + 1 ≤ dT n σ t
 spn : uE σ t → r.2.2 = false ∧ r.2.1 = t ∧ dT n r.1 t ≤ dT n σ t
 oth : ∀ u, dT n r.1 u + kf n r ≤ dT n σ u + kc n t
 hol : iQ t ∨ t.at' = 3 ∧ ¬ uE σ t → ∀ u, dT n r.1 u + kf n r + 1 ≤ dT n σ u + kc n t
 hld : r.2.2 = false → iQ r.2.1 → iQ t ∨ t.at' = 3 ∧ ¬ uE σ t
 sf : Sfs r.1
 tf : r.2.2 = false → KU r.1 r.2.1
 ofs : ∀ u, KU σ u → KU r.1 u
section
variable {n : Nat} {σ σ' : az} {t u : Tk} {r : az × Tk × Bool}
theorem Ll (h11 : ∀ o : Nat, σ'.μ.V (11, (o : Int), 0) = σ.μ.V (11, (o : Int), 0)) (h9 : ∀ s, σ'.μ.V (9, s, 0) = σ.μ.V (9, s, 0)) (u : Tk) : dT n σ' u = dT n σ u := by
 unfold dT wj z6;rw [h11, h9]
theorem KU.mono (T : KU σ u) (h11 : ∀ o : Nat, ay (σ.μ.V (11, (o : Int), 0)) ≤ ay (σ'.μ.V (11, (o : Int), 0))) (hl : ∀ o, cM σ' o = cM σ o) : KU σ' u :=
 ⟨T.q, fun h => dN (T.cw h) (h11 _), fun h => by rw [hl]; exact dN (T.fl h) (h11 _), fun h => by rw [hl]; exact T.fw h, fun h => by rw [hl]; exact T.rm h⟩
theorem lp (hat3 : ¬ uE σ t) (h11 : ∀ o : Nat, r.1.μ.V (11, (o : Int), 0) = σ.μ.V (11, (o : Int), 0)) (h9 : ∀ s, r.1.μ.V (9, s, 0) = σ.μ.V (9, s, 0)) (h2 : r.1.μ.V (2, 0, 0) = σ.μ.V (2, 0, 0)) (h12 : ∀ o : Nat, r.1.μ.V (12, (o : Int), 0) = σ.μ.V (12, (o : Int), 0)) (hl : ∀ o, cM r.1 o = cM σ o)
 (S : Sfs σ) (own : r.2.2 = true ∨ dT n σ r.2.1 + 1 ≤ dT n σ t) (oth : kf n r ≤ kc n t) (hol : iQ t ∨ t.at' = 3 → kf n r + 1 ≤ kc n t) (hld : r.2.2 = false → iQ r.2.1 → iQ t ∨ t.at' = 3) (tf : r.2.2 = false → KU σ r.2.1) : PotR n σ t r := by
 have e := fun u => Ll (n := n) h11 h9 u;have S' : Sfs r.1 := ⟨by rw [h2]; exact S.v2, fun o => by rw [h11]; exact S.wr o, fun o => by rw [h12]; exact S.hd o⟩;have M : ∀ {u}, KU σ u → KU r.1 u := fun T => T.mono (fun o => Nat.le_of_eq (by rw [h11])) hl;refine ⟨.inr (by rw [e]; exact own), fun h => absurd h hat3, fun u => by rw [e]; omega, fun h u => ?_, fun hd h => ?_, S', fun hd => M (tf hd), fun u T => M T⟩
 ·rw [e]
  have := hol (by rcases h with h | h; exact .inl h; exact .inr h.1)
  omega
 ·rcases hld hd h with h | h
  ·exact .inl h
  ·exact .inr ⟨h, hat3⟩
theorem rD {V : bC → Nat} {l z : bC} {v : Nat} (h : z.1 ≠ l.1) : (if z = l then v else V z) = V z := if_neg (fun e => h (by rw [e]))
theorem dc (hat3 : ¬ uE σ t) {μ' : Mu} (hμ : r.1.μ = μ') (hob : r.1.obs = σ.obs) (hV : μ'.V = σ.μ.V ∨ ∃ l v, μ'.V = (fun z => if z = l then v else σ.μ.V z) ∧ l.1 ≠ 11 ∧ l.1 ≠ 9 ∧ l.1 ≠ 2 ∧ l.1 ≠ 12)
 (S : Sfs σ) (own : r.2.2 = true ∨ dT n σ r.2.1 + 1 ≤ dT n σ t) (oth : kf n r ≤ kc n t) (hol : iQ t ∨ t.at' = 3 → kf n r + 1 ≤ kc n t) (hld : r.2.2 = false → iQ r.2.1 → iQ t ∨ t.at' = 3) (tf : r.2.2 = false → KU σ r.2.1) : PotR n σ t r := by
 have key : ∀ z : bC, z.1 = 11 ∨ z.1 = 9 ∨ z.1 = 2 ∨ z.1 = 12 → r.1.μ.V z = σ.μ.V z := by
  intro z hz;rw [hμ]
  rcases hV with h | ⟨l, v, h, h1, h2, h3, h4⟩
  ·rw [h]
  ·rw [h]
   refine rD ?_;omega
 exact lp hat3 (fun o => key _ (.inl rfl)) (fun s => key _ (.inr (.inl rfl))) (key _ (.inr (.inr (.inl rfl)))) (fun o => key _ (.inr (.inr (.inr rfl)))) (jh hob) S own oth hol hld tf
end
section
variable {n : Nat} {σ : az} {t : Tk}
theorem ns (h : t.at' ≠ 3) : ¬ uE σ t := fun q => h q.1
theorem nh {P : Prop} (h : t.at' ≠ 3 ∧ t.at' ≠ 4 ∧ t.at' ≠ 5) : iQ t ∨ t.at' = 3 → P := fun q => by
 rcases q with (q | q) | q <;> omega
theorem Co {r : az × Tk × Bool} {P : Prop} (h : r.2.2 = false → r.2.1.at' ≠ 4 ∧ r.2.1.at' ≠ 5) : r.2.2 = false → iQ r.2.1 → P := fun hd q => by
 have := h hd
 rcases q with q | q <;> omega
theorem HG {t' : Tk} (h : t'.at' ≠ 8 ∧ t'.at' ≠ 9 ∧ t'.at' ≠ 12 ∧ t'.at' ≠ 13 ∧ t'.at' ≠ 15 ∧ t'.at' ≠ 16 ∧ t'.at' ≠ 17 ∧ t'.at' ≠ 18) : KU σ t' :=
 ⟨fun q => by omega, fun q => by omega, fun q => by omega, fun q => by omega, fun q => by omega⟩
theorem YR (h : σ.μ.V (11, (t.obj : Int), 0) = t.w) : wj σ t = false := by unfold wj; simp [h]
theorem aa9 (h : ¬ σ.μ.V (11, (t.obj : Int), 0) = t.w) : wj σ t = true := by unfold wj; simp [h]
theorem YH (h : σ.μ.V (9, t.s, 0) = t.top) : z6 σ t = false := by unfold z6; simp [h]
theorem aaP (h : ¬ σ.μ.V (9, t.s, 0) = t.top) : z6 σ t = true := by unfold z6; simp [h]
theorem kI {a : Nat} (h : t.at' = a) : dT n σ t = dA n (wj σ t) (z6 σ t) t.i a := by unfold dT; rw [h]
theorem BW {a : Nat} (h : t.at' = a) : kc n t = eA n t.i a := by unfold kc; rw [h]
theorem abW {r : az × Tk × Bool} (h : r.2.2 = true) : kf n r = 0 := by unfold kf; rw [if_pos h]
theorem WS {r : az × Tk × Bool} {a : Nat} (h : r.2.2 = false) (h2 : r.2.1.at' = a) : kf n r = eA n r.2.1.i a := by unfold kf kc; rw [if_neg (by rw [h]; simp), h2]
theorem pG (hn : (n : Int) = σ.c.sl) (S : Sfs σ) (r : az × Tk × Bool) (a0 a1 c : Nat) (cc : Int) (hat : t.at' = a0) (h3 : a0 ≠ 3) (hμ : r.1.μ = (bJ σ t).μ) (hob : r.1.obs = σ.obs) (he : r.2.1 = { aA σ t with at' := a1, code := cc })
 (hd : ∀ st lt st' yx, dA n st' yx (t.i + 1) a1 + 1 ≤ dA n st lt t.i a0) (heA : eA n (t.i + 1) a1 ≤ eA n t.i a0) (hh : a0 = 4 ∨ a0 = 5 → eA n (t.i + 1) a1 + 1 ≤ eA n t.i a0) (hl : a1 = 4 ∨ a1 = 5 → a0 = 4 ∨ a0 = 5) (h1 : a1 < 7) : PotR n σ t r := by
 have e1 : r.2.1.at' = a1 := by rw [he]
 have e2 : r.2.1.i = t.i + 1 := by rw [he]; rfl
 have eu : kf n r ≤ eA n (t.i + 1) a1 := by
  unfold kf kc
  split
  ·omega
  ·rw [e1, e2]; omega
 have V : ∀ z, r.1.μ.V z = σ.μ.V z := fun z => by rw [hμ]
 refine lp (ns (by omega)) (fun o => V _) (fun s => V _) (V _) (fun o => V _) (jh hob) S (.inr ?_) ?_ (fun q => ?_) (fun hdn q => ?_) (fun _ => HG (by omega))
 ·rw [kI e1, kI hat, e2]
  exact hd _ _ _ _
 ·rw [BW hat]; omega
 ·rw [BW hat]
  have := hh (by rcases q with (q | q) | q <;> omega)
  omega
 ·have := hl (by rcases q with q | q <;> omega)
  left
  unfold iQ;omega
theorem Hm (S : Sfs σ) (F : KU σ t) (hlen : cM σ t.obj < 1000) (a0 a1 af : Nat) (hat : t.at' = a0) (h9 : a0 = 9 ∧ a1 = 10 ∧ af = 7 ∨ a0 = 13 ∧ a1 = 14 ∧ af = 20) (now : Int) (c : Int) :
 PotR n σ t (if cG σ.μ t.obj t.w (aL t.w 0) = true then ((σ.mem (σ.μ.turn t.who t.obj t.w (aL t.w 0))).note now t.who 0, { t with at' := a1, code := c }, false) else (σ.mem (σ.μ.turn t.who t.obj t.w (aL t.w 0)), { t with at' := af }, false)) := by
 have hrm := F.rm (by omega)
 by_cases hv : σ.μ.V (11, (t.obj : Int), 0) = t.w
 ·have hw := S.wr t.obj
  rw [hv] at hw
  have em : aL t.w 0 = some (ay t.w + 1 + 2305843009213693952) := by
   show (if _ then _ else _) = _;rw [if_pos ⟨hw.1, hw.2, by omega⟩]
  obtain ⟨m, hm⟩ : ∃ m, m = ay t.w + 1 + 2305843009213693952 := ⟨_, rfl⟩;rw [← hm] at em;obtain ⟨m1, m2, m3, m4⟩ := KF em;rw [em, sK, if_pos (ia hv)]
  have eV : (σ.μ.swp t.who (11, (t.obj : Int), 0) t.w m).V = fun z => if z = (11, (t.obj : Int), 0) then m else σ.μ.V z := by rw [jD, if_pos hv]
  obtain ⟨r, hr⟩ : ∃ r : az × Tk × Bool, r = ((σ.mem (σ.μ.turn t.who t.obj t.w (some m))).note now t.who 0, { t with at' := a1, code := c }, false) := ⟨_, rfl⟩;rw [← hr]
  have hV : ∀ z, r.1.μ.V z = if z = (11, (t.obj : Int), 0) then m else σ.μ.V z := fun z => by
   rw [hr];show (σ.μ.swp t.who (11, (t.obj : Int), 0) t.w m).V z = _;rw [eV]
  have r3 : r.2.2 = false := by rw [hr]
  have ra : r.2.1.at' = a1 := by rw [hr]
  have rob : r.1.obs = σ.obs := by rw [hr]
  have V11 : ∀ o : Nat, r.1.μ.V (11, (o : Int), 0) = if o = t.obj then m else σ.μ.V (11, (o : Int), 0) := fun o => by
   rw [hV]
   by_cases e : o = t.obj
   ·rw [if_pos (by rw [e]), if_pos e]
   ·rw [if_neg (fun h => e (by injection h with _ h; injection h with h _; omega)), if_neg e]
  have V9 : ∀ s, r.1.μ.V (9, s, 0) = σ.μ.V (9, s, 0) := fun s => by rw [hV]; exact if_neg (by simp)
  have cnt : ∀ o : Nat, ay (σ.μ.V (11, (o : Int), 0)) ≤ ay (r.1.μ.V (11, (o : Int), 0)) := fun o => by
   rw [V11]
   split
   ·rename_i e; rw [e, hv]; omega
   ·omega
  have du : ∀ u, dT n r.1 u ≤ dT n σ u + 8 := fun u => by
   unfold dT
   have e : z6 r.1 u = z6 σ u := by unfold z6; rw [V9]
   rw [e];exact aaC n _ _ _ _ _
  have eu : kf n r + 8 ≤ kc n t := by
   rw [WS r3 ra, BW hat]
   rcases h9 with ⟨h1, h2, _⟩ | ⟨h1, h2, _⟩ <;> (rw [h1, h2]; simp [eA])
  have Sr : Sfs r.1 := by
   refine ⟨?_, fun o => ?_, fun o => ?_⟩
   ·rw [hV, if_neg (by simp)]; exact S.v2
   ·rw [V11]
    split
    ·refine ⟨?_, by rw [m4]; decide⟩
     unfold bZ;refine ia ?_;omega
    ·exact S.wr o
   ·rw [hV, if_neg (by simp)]; exact S.hd o
  refine ⟨.inr (.inr ?_), fun h => absurd h.1 (by omega), fun u => by have := du u; omega, fun h => ?_, fun _ h => ?_, Sr, fun _ => HG (by omega), fun u U => U.mono cnt (jh rob)⟩
  ·rw [kI ra, kI hat, YR hv]
   rcases h9 with ⟨h1, h2, _⟩ | ⟨h1, h2, _⟩ <;> (rw [h1, h2]; simp [dA])
  ·rcases h with (h | h) | ⟨h, _⟩ <;> omega
  ·rcases h with h | h <;> omega
 ·have hst : wj σ t = true := aa9 hv
  have hf : cG σ.μ t.obj t.w (aL t.w 0) = false := by
   unfold cG;rw [hZ hv, Bool.and_false]
  rw [hf, if_neg (by simp)]
  have V : ∀ z, (σ.μ.turn t.who t.obj t.w (aL t.w 0)).V z = σ.μ.V z := fun z => by
   cases e : aL t.w 0 with
   | none => rfl
   | some m =>
    show (σ.μ.swp t.who (11, (t.obj : Int), 0) t.w m).V z = _;rw [jD, if_neg hv]
  refine lp (ns (by omega)) (fun o => V _) (fun s => V _) (V _) (fun o => V _) (jh rfl) S (.inr ?_) ?_ (nh (by omega)) (Co fun _ => by dsimp only; omega) (fun _ => HG (by dsimp only; omega))
  ·rw [kI (show ({ t with at' := af } : Tk).at' = af from rfl), kI hat, hst]
   rcases h9 with ⟨h1, _, h2⟩ | ⟨h1, _, h2⟩ <;> (rw [h1, h2]; simp [dA])
  ·rw [WS rfl (show ({ t with at' := af } : Tk).at' = af from rfl), BW hat]
   rcases h9 with ⟨h1, _, h2⟩ | ⟨h1, _, h2⟩ <;> (rw [h1, h2]; simp [eA])
theorem QI (hn : (n : Int) = σ.c.sl) (K : eG σ t) (S : Sfs σ) (F : KU σ t) (hlen : ∀ o, o < σ.obs.length → cM σ o < 1000) (now : Int) : PotR n σ t (ah σ t now) := by
 have hi : t.at' < 5 → t.at' ≠ 3 → t.i < n := fun h1 h2 => by have := K.i h1 h2; omega
 have hla : cz σ (aA σ t) = decide (n ≤ t.i + 1) := by
  show decide (σ.c.sl ≤ ((t.i + 1 : Nat) : Int)) = _;rw [← hn]
  congr 1
  apply propext;omega
 have full : t.at' = 8 ∨ t.at' = 17 → fU σ t = decide (cM σ t.obj ≤ ay t.w) := fun _ => by
  unfold fU kQ;rw [S.hd];unfold cM
  congr 1
  apply propext;omega
 unfold ah;dsimp only
 split
 ·rename_i hat
  split
  ·exact dc (ns (by omega)) rfl rfl (.inl rfl) S (.inl rfl) (by simp [dT, kc, kf, dA, eA, hat, wj, z6]) (nh (by omega)) (Co fun h => by cases h) (fun h => by cases h)
  ·refine pG hn S _ 0 (if (aA σ t).found = true then 6 else if cz σ (aA σ t) = true then 3 else 2) 0 t.code hat (by omega) rfl rfl rfl ?_ ?_ (by omega) ?_ ?_
   all_goals (rw [hla]; have := hi (by omega) (by omega); cases (aA σ t).found <;> simp only [if_true, if_false, Bool.false_eq_true, reduceIte] <;> (try split) <;> simp [dA, eA] <;> omega)
 ·rename_i hat
  refine pG hn S _ 2 (if (aA σ t).found = true then 6 else if cz σ (aA σ t) = true then 3 else 2) 0 t.code hat (by omega) rfl rfl rfl ?_ ?_ (by omega) ?_ ?_
  all_goals (rw [hla]; have := hi (by omega) (by omega); cases (aA σ t).found <;> simp only [if_true, if_false, Bool.false_eq_true, reduceIte] <;> (try split) <;> simp [dA, eA] <;> omega)
 ·rename_i hat
  by_cases h0 : σ.μ.V (8, t.s, 0) = 0
  ·rw [if_pos h0]
   have hns : ¬ uE σ t := fun q => q.2 h0;refine dc hns rfl rfl (.inr ⟨(8, t.s, 0), 1, by rw [jD, if_pos h0], by simp, by simp, by simp, by simp⟩) S (.inr (by simp [dT, dA, hat]; omega)) (by simp [kc, kf, eA, hat]) (fun _ => by simp [kc, kf, eA, hat]) (fun _ _ => .inr hat) (fun _ => HG (by simp))
  ·rw [if_neg h0]
   have hsp : uE σ t := ⟨hat, h0⟩
   have V : ∀ z, (σ.μ.swp t.who (8, t.s, 0) 0 1).V z = σ.μ.V z := fun z => by rw [jD, if_neg h0]
   have e := fun u => Ll (n := n) (σ := σ) (σ' := σ.mem (σ.μ.swp t.who (8, t.s, 0) 0 1)) (fun o => V _) (fun s => V _) u
   have eu : kf n (σ.mem (σ.μ.swp t.who (8, t.s, 0) 0 1), t, false) = kc n t := by unfold kf; rw [if_neg (by simp)]
   have S' : Sfs (σ.mem (σ.μ.swp t.who (8, t.s, 0) 0 1)) := ⟨by rw [show (σ.mem (σ.μ.swp t.who (8, t.s, 0) 0 1)).μ.V (2, 0, 0) = _ from V _]; exact S.v2, fun o => by rw [show (σ.mem (σ.μ.swp t.who (8, t.s, 0) 0 1)).μ.V (11, (o : Int), 0) = _ from V _]; exact S.wr o, fun o => by rw [show (σ.mem (σ.μ.swp t.who (8, t.s, 0) 0 1)).μ.V (12, (o : Int), 0) = _ from V _]; exact S.hd o⟩;refine ⟨.inl hsp, fun _ => ⟨rfl, rfl, Nat.le_of_eq (e t)⟩, fun u => Nat.le_of_eq (by rw [eu]; exact congrArg (· + kc n t) (e u)), fun h => ?_, fun _ h => ?_, S', fun _ => HG (t' := t) (by omega), fun u U => U.mono (fun o => by rw [show (σ.mem (σ.μ.swp t.who (8, t.s, 0) 0 1)).μ.V (11, (o : Int), 0) = _ from V _]; exact bf _) (fun _ => rfl)⟩
   ·rcases h with (h | h) | ⟨_, h⟩
    ·omega
    ·omega
    ·exact absurd hsp h
   ·rcases h with h | h
    ·have h : t.at' = 4 := h
     omega
    ·have h : t.at' = 5 := h
     omega
 ·rename_i hat
  have hin := hi (by omega) (by omega)
  split
  ·exact pG hn S _ 4 5 0 t.code hat (by omega) rfl rfl rfl (fun _ _ _ _ => by simp [dA]; omega) (by simp [eA]) (fun _ => by simp [eA]; omega) (fun _ => .inl rfl) (by omega)
  ·split
   ·exact pG hn S _ 4 5 0 5 hat (by omega) rfl rfl rfl (fun _ _ _ _ => by simp [dA]; omega) (by simp [eA]) (fun _ => by simp [eA]; omega) (fun _ => .inl rfl) (by omega)
   ·exact pG hn S _ 4 4 0 t.code hat (by omega) rfl rfl (by rw [show (aA σ t) = { aA σ t with at' := (aA σ t).at', code := (aA σ t).code } from rfl, show (aA σ t).at' = 4 from hat]; rfl) (fun _ _ _ _ => by simp [dA]; omega) (by simp [eA]; omega) (fun _ => by simp [eA]; omega) (fun _ => .inl rfl) (by omega)
 ·rename_i hat
  cases hf : t.found
  ·refine dc (ns (by omega)) rfl rfl (.inr ⟨_, _, rfl, by simp, by simp, by simp, by simp⟩) S (.inl rfl) (by simp [kc, kf, eA, hat]) (fun _ => by simp [kc, kf, eA, hat]) (fun h => by cases h) (fun h => by cases h)
  ·refine dc (ns (by omega)) rfl rfl (.inr ⟨_, _, rfl, by simp, by simp, by simp, by simp⟩) S (.inr (by simp [dT, dA, hat])) (by simp [kc, kf, eA, hat]) (fun _ => by simp [kc, kf, eA, hat]) (Co fun _ => by simp) (fun _ => HG (by simp))
 ·rename_i hat
  exact dc (ns (by omega)) rfl rfl (.inl rfl) S (.inr (by simp [dT, kc, kf, dA, eA, hat, wj, z6])) (by simp [dT, kc, kf, dA, eA, hat, wj, z6]) (nh (by omega)) (Co fun _ => by simp) (fun _ => HG (by simp))
 ·rename_i hat
  rw [if_neg (S.wr t.obj).2];refine dc (ns (by omega)) rfl rfl (.inl rfl) S (.inr ?_) (by simp [kc, kf, eA, hat]) (nh (by omega)) (Co fun _ => by simp) (fun _ => ?_)
  ·rw [kI hat]
   show dA n (wj σ { t with w := σ.μ.V (11, (t.obj : Int), 0), at' := 8 }) _ _ 8 + 1 ≤ _;rw [YR rfl];simp [dA]
  ·exact ⟨fun q => by simp at q, fun _ => bf _, fun q => by simp at q, fun q => by simp at q, fun q => by simp at q⟩
 ·rename_i hat
  rw [full (.inl hat)]
  by_cases hfu : cM σ t.obj ≤ ay t.w
  ·rw [if_pos (ia hfu)]
   refine dc (ns (by omega)) rfl rfl (.inl rfl) S (.inr ?_) (by simp [kc, kf, eA, hat]) (nh (by omega)) (Co fun _ => by simp) (fun _ => ?_)
   ·rw [kI hat]
    show dA n _ _ _ 15 + 1 ≤ _
    cases wj σ t <;> simp [dA]
   ·exact ⟨fun q => by simp at q, fun q => by simp at q, fun _ => dN hfu (F.cw hat), fun q => by simp at q, fun q => by simp at q⟩
  ·rw [if_neg (by rw [hZ hfu]; simp)]
   refine dc (ns (by omega)) rfl rfl (.inl rfl) S (.inr ?_) (by have e : ∀ a, a = 9 ∨ a = 12 → eA n t.i a = 11 := (fun a h => by rcases h with rfl | rfl <;> simp [eA]); rw [WS rfl rfl, BW hat]; show eA n t.i (if aH t.w = 1 then 9 else 12) ≤ _; rw [e _ (by split <;> simp)]; simp [eA]) (nh (by omega)) (Co fun _ => by dsimp only; split <;> simp) (fun _ => ?_)
   ·rw [kI hat]
    show dA n (wj σ t) _ _ (if aH t.w = 1 then 9 else 12) + 1 ≤ _
    cases wj σ t <;> (split <;> simp [dA])
   ·refine ⟨fun q => ?_, fun q => ?_, fun q => ?_, fun q => ?_, fun _ => by show ay t.w < cM σ t.obj; omega⟩
    all_goals (dsimp only at q; split at q <;> omega)
 ·rename_i hat
  exact Hm S F (hlen _ (K.obj (.inl (by omega)))) 9 10 7 hat (.inl ⟨rfl, rfl, rfl⟩) now 0
 ·rename_i hat
  have V : ∀ z, (dL σ t).μ.V z = σ.μ.V z := fun z => rfl;exact lp (ns (by omega)) (fun o => V _) (fun s => V _) (V _) (fun o => V _) vy S (.inr (by simp [dT, dA, hat])) (by simp [kc, kf, eA, hat]) (nh (by omega)) (Co fun _ => by simp) (fun _ => HG (by simp))
 ·rename_i hat
  exact dc (ns (by omega)) rfl rfl (.inr ⟨_, _, rfl, by simp, by simp, by simp, by simp⟩) S (.inl rfl) (by simp [dT, kc, kf, dA, eA, hat, wj, z6]) (nh (by omega)) (Co fun h => by cases h) (fun h => by cases h)
 ·rename_i hat
  refine dc (ns (by omega)) rfl rfl (.inr ⟨_, _, rfl, by simp, by simp, by simp, by simp⟩) S (.inr ?_) (by simp [kc, kf, eA, hat]) (nh (by omega)) (Co fun _ => by simp) (fun _ => ?_)
  ·rw [kI hat]
   show dA n (wj σ t) _ _ 13 + 1 ≤ _
   cases wj σ t <;> simp [dA]
  ·exact ⟨fun q => by simp at q, fun q => by simp at q, fun q => by simp at q, fun q => by simp at q, fun _ => F.rm (.inr (.inl hat))⟩
 ·rename_i hat
  exact Hm S F (hlen _ (K.obj (.inl (by omega)))) 13 14 20 hat (.inr ⟨rfl, rfl, rfl⟩) now 0
 ·rename_i hat
  have V : ∀ z, (dL σ t).μ.V z = σ.μ.V z := fun z => rfl;exact lp (ns (by omega)) (fun o => V _) (fun s => V _) (V _) (fun o => V _) vy S (.inr (by simp [dT, dA, hat])) (by simp [kc, kf, eA, hat]) (nh (by omega)) (Co fun _ => by simp) (fun _ => HG (by simp))
 ·rename_i hat
  rw [S.v2, if_neg (by omega)];exact dc (ns (by omega)) rfl rfl (.inl rfl) S (.inr (by simp [dT, dA, hat])) (by simp [kc, kf, eA, hat]) (nh (by omega)) (Co fun _ => by simp) (fun _ => ⟨fun _ => rfl, fun q => by simp at q, fun _ => F.fl (.inl hat), fun q => by simp at q, fun q => by simp at q⟩)
 ·rename_i hat
  rw [if_neg (S.wr t.obj).2];exact dc (ns (by omega)) rfl rfl (.inl rfl) S (.inr (by simp [dT, dA, hat])) (by simp [kc, kf, eA, hat]) (nh (by omega)) (Co fun _ => by simp) (fun _ => ⟨fun _ => F.q (.inl hat), fun q => by simp at q, fun q => by simp at q, fun _ => F.fl (.inr hat), fun q => by simp at q⟩)
 ·rename_i hat
  rw [full (.inr hat), if_pos (ia (F.fw hat))];exact dc (ns (by omega)) rfl rfl (.inl rfl) S (.inr (by simp [dT, dA, hat])) (by simp [kc, kf, eA, hat]) (nh (by omega)) (Co fun _ => by simp) (fun _ => ⟨fun _ => F.q (.inr (.inl hat)), fun q => by simp at q, fun q => by simp at q, fun q => by simp at q, fun q => by simp at q⟩)
 ·rename_i hat
  rw [if_pos (by rw [S.v2, F.q (.inr (.inr hat))])];exact dc (ns (by omega)) rfl rfl (.inl rfl) S (.inl rfl) (by simp [kc, kf, eA, hat]) (nh (by omega)) (Co fun h => by cases h) (fun h => by cases h)
 ·rename_i hat
  exact dc (ns (by omega)) rfl rfl (.inr ⟨_, _, rfl, by simp, by simp, by simp, by simp⟩) S (.inr (by simp [dT, kc, kf, dA, eA, hat, wj, z6])) (by simp [dT, kc, kf, dA, eA, hat, wj, z6]) (nh (by omega)) (Co fun _ => by simp) (fun _ => HG (by simp))
 ·rename_i hat
  exact dc (ns (by omega)) rfl rfl (.inr ⟨_, _, rfl, by simp, by simp, by simp, by simp⟩) S (.inr (by simp [dT, kc, kf, dA, eA, hat, wj, z6])) (by simp [dT, kc, kf, dA, eA, hat, wj, z6]) (nh (by omega)) (Co fun _ => by simp) (fun _ => HG (by simp))
 ·rename_i hat
  refine dc (ns (by omega)) rfl rfl (.inl rfl) S (.inr ?_) (by simp [kc, kf, eA, hat]) (nh (by omega)) (Co fun _ => by simp) (fun _ => HG (by simp));rw [kI hat];show dA n _ (z6 σ { t with top := σ.μ.V (9, t.s, 0), at' := 23 }) _ 23 + 1 ≤ _;rw [YH rfl];simp [dA]
 ·rename_i hat
  have V : ∀ z, (σ.μ.acc t.who 6 (14, (t.obj : Int), 0)).V z = σ.μ.V z := fun z => rfl;refine lp (ns (by omega)) (fun o => V _) (fun s => V _) (V _) (fun o => V _) (jh rfl) S (.inr ?_) (by simp [kc, kf, eA, hat]) (nh (by omega)) (Co fun _ => by simp) (fun _ => HG (by simp));rw [kI hat];show dA n _ (z6 σ t) _ 24 + 1 ≤ _
  cases z6 σ t <;> simp [dA]
 ·rename_i hat
  by_cases h0 : σ.μ.V (9, t.s, 0) = t.top
  ·rw [if_pos h0]
   obtain ⟨r, hr⟩ : ∃ r : az × Tk × Bool, r = (σ.mem (σ.μ.swp t.who (9, t.s, 0) t.top (t.obj + 1)), { t with at' := 25 }, false) := ⟨_, rfl⟩;rw [← hr]
   have hV : ∀ z, r.1.μ.V z = if z = (9, t.s, 0) then t.obj + 1 else σ.μ.V z := fun z => by
    rw [hr];show (σ.μ.swp t.who (9, t.s, 0) t.top (t.obj + 1)).V z = _;rw [jD, if_pos h0]
   have r3 : r.2.2 = false := by rw [hr]
   have ra : r.2.1.at' = 25 := by rw [hr]
   have rob : r.1.obs = σ.obs := by rw [hr]
   have V11 : ∀ o : Nat, r.1.μ.V (11, (o : Int), 0) = σ.μ.V (11, (o : Int), 0) := fun o => by rw [hV]; exact if_neg (by simp)
   have du : ∀ u, dT n r.1 u ≤ dT n σ u + 3 := fun u => by
    unfold dT
    have e : wj r.1 u = wj σ u := by unfold wj; rw [V11]
    rw [e];exact aaB n _ _ _ _ _
   have eu : kf n r + 3 ≤ kc n t := by
    rw [WS r3 ra, BW hat];simp [eA]
   have Sr : Sfs r.1 := ⟨by rw [hV, if_neg (by simp)]; exact S.v2, fun o => by rw [V11]; exact S.wr o, fun o => by rw [hV, if_neg (by simp)]; exact S.hd o⟩;refine ⟨.inr (.inr ?_), fun h => absurd h.1 (by omega), fun u => by have := du u; omega, fun h => ?_, fun _ h => ?_, Sr, fun _ => HG (by omega), fun u U => U.mono (fun o => Nat.le_of_eq (by rw [V11])) (jh rob)⟩
   ·rw [kI ra, kI hat, YH h0]
    simp [dA]
   ·rcases h with (h | h) | ⟨h, _⟩ <;> omega
   ·rcases h with h | h <;> omega
  ·rw [if_neg h0]
   have V : ∀ z, (σ.μ.swp t.who (9, t.s, 0) t.top (t.obj + 1)).V z = σ.μ.V z := fun z => by rw [jD, if_neg h0]
   refine lp (ns (by omega)) (fun o => V _) (fun s => V _) (V _) (fun o => V _) (jh rfl) S (.inr ?_) (by simp [kc, kf, eA, hat]) (nh (by omega)) (Co fun _ => by simp) (fun _ => HG (by simp));rw [kI hat, aaP h0];show dA n _ _ _ 22 + 1 ≤ _;simp [dA]
 ·have h3 : t.at' ≠ 3 := by assumption
  have h4 : t.at' ≠ 4 := by assumption
  have h5 : t.at' ≠ 5 := by assumption
  exact dc (ns h3) rfl rfl (.inr ⟨_, _, rfl, by simp, by simp, by simp, by simp⟩) S (.inl rfl) (by rw [abW rfl]; omega) (fun q => by rcases q with (q | q) | q <;> omega) (fun h => by cases h) (fun h => by cases h)
end
theorem Qe {P : SP} {H : AH} {s : Value} {l : List Int} [hR : Rd P s 1 dC l] (n most : Nat) (hn : 0 < n ∧ n < 1000) (hm : most < 1000) {k : Value × AH → OV} {Q : Value → AH → Prop} (h : ac P H)
 (hk : ∀ (v : Value) (o : List Int) (H' : AH), o.length ≤ most → (∀ y ∈ o, 0 ≤ y ∧ y < n) → ac (ts 1 dC v o * P) H' → wp (k (v, H')) Q) : wp ((FF M1 [s, vi (n : Int), vi (most : Int)] H).bind k) Q := by
 have law : Sp M1 [s, vi (n : Int), vi (most : Int)] P (fun g : Value × List Int => g.1) (fun g => pu (g.2.length ≤ most ∧ ∀ y ∈ g.2, 0 ≤ y ∧ y < n) * (ts 1 dC g.1 g.2 * P)) := by
  refine aY (Zs _ _ _) fun R H h => ?_;refine aj (P3 ..) ?_;refine aj (P4 ..) ?_;have app : ∀ (v : Value) (o : List Int) (x : Int) (H : AH) {kk : Value × AH → OV} {Q : Value → AH → Prop}, o.length < most → ac (ts 1 dC v o * (P * R)) H → (∀ v' H', ac (ts 1 dC v' (o ++ [x]) * (P * R)) H' → wp (kk (v', H')) Q) →
   wp (Af 1 1 [(vi 0)] [(0, vi x)] H fun v25 H26 => (dX 1 8 v v25 H26).bind kk) Q := by
   intro v o x H kk Q ho hh hk;refine KG hh fun b H1 h1 => ?_;refine gX (s := v) (l := o) (x : Int) h1 rfl ?_ (by omega) fun a c H2 h2 => ?_
   ·unfold room; omega
   exact hk _ H2 h2.to
  have snoc : ∀ {o : List Int} {x : Int}, (∀ y ∈ o, 0 ≤ y ∧ y < (n : Int)) → ∀ y ∈ o ++ [dM x n], 0 ≤ y ∧ y < (n : Int) := by
   intro o x hv y hy
   rcases List.mem_append.1 hy with hy | hy
   ·exact hv y hy
   ·rw [List.mem_singleton.1 hy]; exact eZ (by omega)
  -- one again and again
  have inner : ∀ (d i j : Nat) (ki : Int) (v : Value) (o : List Int) (H : AH) {Q : Value → AH → Prop}, most - o.length = d → o.length ≤ most → (∀ y ∈ o, 0 ≤ y ∧ y < (n : Int)) → i < l.length → 0 ≤ ki ∧ ki < 40 → j < 1000 + o.length → ac (ts 1 dC v o * (P * R)) H →
   (∀ v' o' H', o.length ≤ o'.length → o'.length ≤ most → (∀ y ∈ o', 0 ≤ y ∧ y < (n : Int)) → ac (ts 1 dC v' o' * (P * R)) H' → wp (EB s (vi (n : Int)) (vi (most : Int)) (.slice none 0 0) v' (vi ki) (vi (i : Int)) H') Q) →
   wp (yA s (vi (n : Int)) (vi (most : Int)) (.slice none 0 0) v (vi ki) (vi (i : Int)) (vi (j : Int)) H) Q := by
   intro d
   induction d with
   | zero =>
    intro i j ki v o H Q hd ho hv hil hki hj hh hk;refine aj (Ai ..) ?_;refine i9 (s := s) (l := l) (v := vi l[i]) hh hil rfl ?_;refine ag hh (ci l[i] 7 (by omega) (by omega)) fun _ H1 h1 => ?_;have m7 := eZ (v := l[i]) (n := 7) (by omega);refine aa (i8 (by omega)) ?_;have q3 : 0 ≤ ki.tmod 3 ∧ ki.tmod 3 < 3 := ⟨Int.tmod_nonneg _ hki.1, Int.tmod_lt_of_pos _ (by omega)⟩;have p0 : 0 ≤ dM l[i] 7 * ki.tmod 3 := Int.mul_nonneg m7.1 q3.1;have p1 : dM l[i] 7 * ki.tmod 3 ≤ 7 * 3 := Int.mul_le_mul (by omega) (by omega) q3.1 (by omega);refine aa (pZ (by omega) (by omega)) ?_
    have out : wp (qo s (vi (n : Int)) (vi (most : Int)) (.slice none 0 0) v (vi ki) (vi (i : Int)) H1) Q := by
     refine aj (t4 ..) ?_;exact hk v o H1 (bf _) ho hv h1.to
    by_cases hlt : (j : Int) < dM l[i] 7 * ki.tmod 3
    ·refine aa (cJ hlt) ?_
     refine gs ?_;refine gD (s := v) (l := o) h1 ?_;refine gs ?_;refine aa (b4 (by omega)) ?_;refine gs ?_;exact out
    ·refine aa (b4 hlt) ?_
     refine gs ?_;exact out
   | succ d ih =>
    intro i j ki v o H Q hd ho hv hil hki hj hh hk;refine aj (Ai ..) ?_;refine i9 (s := s) (l := l) (v := vi l[i]) hh hil rfl ?_;refine ag hh (ci l[i] 7 (by omega) (by omega)) fun _ H1 h1 => ?_;have m7 := eZ (v := l[i]) (n := 7) (by omega);refine aa (i8 (by omega)) ?_;have q3 : 0 ≤ ki.tmod 3 ∧ ki.tmod 3 < 3 := ⟨Int.tmod_nonneg _ hki.1, Int.tmod_lt_of_pos _ (by omega)⟩;have p0 : 0 ≤ dM l[i] 7 * ki.tmod 3 := Int.mul_nonneg m7.1 q3.1;have p1 : dM l[i] 7 * ki.tmod 3 ≤ 7 * 3 := Int.mul_le_mul (by omega) (by omega) q3.1 (by omega);refine aa (pZ (by omega) (by omega)) ?_
    have out : wp (qo s (vi (n : Int)) (vi (most : Int)) (.slice none 0 0) v (vi ki) (vi (i : Int)) H1) Q := by
     refine aj (t4 ..) ?_;exact hk v o H1 (bf _) ho hv h1.to
    by_cases hlt : (j : Int) < dM l[i] 7 * ki.tmod 3
    ·refine aa (cJ hlt) ?_
     refine gs ?_;refine gD (s := v) (l := o) h1 ?_;refine gs ?_;refine aa (cJ (by omega)) ?_;refine gs ?_;refine aj (JI ..) ?_;refine i9 (s := s) (l := l) (v := vi l[i]) h1 hil rfl ?_;refine ag h1 (ci l[i] n (by omega) (by omega)) fun _ H2 h2 => ?_;refine app v o (dM l[i] n) H2 (by omega) h2.to fun v' H3 h3 => ?_;refine aj (JJ ..) ?_;refine aa (aO (by omega) (by omega)) ?_;rw [show ((j : Nat) : Int) + 1 = ((j + 1 : Nat) : Int) from by omega]
     have hl1 : (o ++ [dM l[i] n]).length = o.length + 1 := by simp
     exact ih i (j + 1) ki v' (o ++ [dM l[i] n]) H3 (by omega) (by omega) (snoc hv) hil hki (by omega) h3 (fun v4 o4 H4 hle h1' hv' h2' => hk v4 o4 H4 (by omega) h1' hv' h2')
    ·refine aa (b4 hlt) ?_
     refine gs ?_;exact out
  have mid : ∀ (d i : Nat) (ki : Int) (v : Value) (o : List Int) (H : AH) {Q : Value → AH → Prop}, most - o.length = d → o.length ≤ most → (∀ y ∈ o, 0 ≤ y ∧ y < (n : Int)) → i ≤ o.length → 0 ≤ ki ∧ ki < 40 → ac (ts 1 dC v o * (P * R)) H →
   (∀ v' o' H', o'.length ≤ most → (∀ y ∈ o', 0 ≤ y ∧ y < (n : Int)) → ac (ts 1 dC v' o' * (P * R)) H' → wp (JK s (vi (n : Int)) (vi (most : Int)) (.slice none 0 0) v' (vi ki) H') Q) →
   wp (yz s (vi (n : Int)) (vi (most : Int)) (.slice none 0 0) v (vi ki) (vi (i : Int)) H) Q := by
   intro d
   induction d using Nat.strongRecOn with
   | ind d ih =>
    intro i ki v o H Q hd ho hv hio hki hh hk;refine aj (JE ..) ?_;refine ja (s := s) (l := l) hh ?_
    have out : wp (vH s (vi (n : Int)) (vi (most : Int)) (.slice none 0 0) v (vi ki) H) Q := by
     refine aj (EA ..) ?_;exact hk v o H ho hv hh
    by_cases hil : i < l.length
    ·refine aa (cJ (by omega)) ?_
     refine gs ?_;refine gD (s := v) (l := o) hh ?_;refine gs ?_
     by_cases hlt : o.length < most
     ·refine aa (cJ (by omega)) ?_
      refine gs ?_;refine aj (JF ..) ?_;refine i9 (s := s) (l := l) (v := vi l[i]) hh hil rfl ?_;refine ag hh (ci l[i] n (by omega) (by omega)) fun _ H2 h2 => ?_;refine app v o (dM l[i] n) H2 (by omega) h2.to fun v' H3 h3 => ?_;refine aj (JH ..) ?_
      have hl1 : (o ++ [dM l[i] n]).length = o.length + 1 := by simp
      refine inner (most - (o.length + 1)) i 0 ki v' (o ++ [dM l[i] n]) H3 (by omega) (by omega) (snoc hv) hil hki (by omega) h3 fun v4 o4 H4 hle h1' hv' h2' => ?_;refine aj (JG ..) ?_;refine aa (aO (by omega) (by omega)) ?_;rw [show ((i : Nat) : Int) + 1 = ((i + 1 : Nat) : Int) from by omega];exact ih (most - o4.length) (by omega) (i + 1) ki v4 o4 H4 rfl h1' hv' (by omega) hki h2' hk
     ·refine aa (b4 (by omega)) ?_
      refine gs ?_;exact out
    ·refine aa (b4 (by omega)) ?_
     refine gs ?_;exact out
  have outer : ∀ (d k : Nat) (v : Value) (o : List Int) (H : AH), k + d = 40 → o.length ≤ most → (∀ y ∈ o, 0 ≤ y ∧ y < (n : Int)) → ac (ts 1 dC v o * (P * R)) H →
   wp (EC s (vi (n : Int)) (vi (most : Int)) (.slice none 0 0) v (vi (k : Int)) H) fun v' H' => ∃ g : Value × List Int, v' = g.1 ∧ ac (pu (g.2.length ≤ most ∧ ∀ y ∈ g.2, 0 ≤ y ∧ y < n) * (ts 1 dC g.1 g.2 * P) * R) H' := by
   intro d
   induction d with
   | zero =>
    intro k v o H hk ho hv hh;refine aj (Cs ..) ?_;refine aa (b4 (by omega)) ?_;refine gs ?_;refine aj (wN ..) ?_;refine aj (Cr ..) ?_;refine ap ⟨(v, o), rfl, ?_⟩;rw [ar, ac.pu];exact ⟨⟨ho, hv⟩, hh.to⟩
   | succ d ih =>
    intro k v o H hk ho hv hh;refine aj (Cs ..) ?_;refine aa (cJ (by omega)) ?_;refine gs ?_;refine gD (s := s) (l := l) hh ?_;refine gs ?_
    by_cases hl0 : 0 < l.length
    ·refine aa (wH (by omega)) ?_
     refine gs ?_;refine aj (P5 ..) ?_;refine aj (P7 ..) ?_;refine mid (most - o.length) 0 k v o H rfl ho hv (Nat.zero_le _) (by omega) hh fun v' o' H' ho' hv' h' => ?_;refine aj (P6 ..) ?_;refine aa (aO (by omega) (by omega)) ?_;rw [show ((k : Nat) : Int) + 1 = ((k + 1 : Nat) : Int) from by omega];exact ih (k + 1) v' o' H' (by omega) ho' hv' h'
    ·refine aa (jQ (by omega)) ?_
     refine gs ?_;refine aj (wN ..) ?_;refine aj (Cr ..) ?_;refine ap ⟨(v, o), rfl, ?_⟩;rw [ar, ac.pu];exact ⟨⟨ho, hv⟩, hh.to⟩
  have h0 := d6 1 dC h;exact outer 40 0 (.slice none 0 0) [] H rfl (Nat.zero_le _) (fun y hy => by cases hy) h0
 obtain ⟨⟨v, o⟩, H', e, h'⟩ := law emp H (by rw [eD]; exact h);rw [e];rw [eD, ac.pu] at h';exact hk v o H' h'.1.1 h'.1.2 h'.2
theorem Za {b w n e : Nat} {kk : IntKind} (hw : w < n) : HH [.a n e (.int kk (w : Int))] (vp b) b (w * e) := fun k => by
 rw [Z4 hw]; show k (oz b (0 + w * e)) = _; rw [Nat.zero_add]
theorem na {P : SP} {H : AH} {b w n : Nat} {kk : IntKind} {ro : Bool} {cs : List Value} {v : Value} {Q : Value → AH → Prop} {k : Value → OV} (h : ac P H) [i : Hs P b (.cells ro cs)] (hw : w < n) (hv : cs[w]? = some v) (hk : wp (k v) Q) : wp (ld [.a n 1 (.int kk (w : Int))] (vp b) H k) Q :=
 aq h (Za hw) (by rw [Nat.mul_one]; exact hv) hk
theorem Kt (cs : List Value) (w : Nat) (v : Value) (h : w < cs.length) : splice cs w [v] = cs.set w v := by
 unfold splice;rw [List.set_eq_take_append_cons_drop, if_pos h];simp
theorem NK {P P' : SP} {H : AH} {b w n : Nat} {kk : IntKind} {cs : List Value} {v : Value} {Q : Value → AH → Prop} {k : AH → OV} (h : ac P H) [i : Hs P b (.cells false cs)] (hw : w < n) (hn : cs.length = n) [c : sQ v [v]] (hv : [v].all Value.oneCell' = true) [u : Up P b (.cells false (cs.set w v)) P']
 (hk : ∀ H', ac P' H' → wp (k H') Q) : wp (st 1 [.a n 1 (.int kk (w : Int))] (vp b) v H k) Q := by
 haveI : uS cs w [v] (cs.set w v) := ⟨by simp; omega, (Kt cs w v (by omega)).symm⟩
 exact bk h (o := w) (fun k => by rw [Z4 hw]; show k (oz b (0 + w * 1)) = _; rw [Nat.zero_add, Nat.mul_one]) rfl hv hk
abbrev Wk := Option (Nat × Nat × Tk)
def Z1 (σ : az) (q : Wk) : Prop := match q with
 | none => True
 | some q => Wq σ q.2.2
structure ZU (σ : az) (ws : List Wk) (ats : List Nat) : Prop where
 l : ws.length = 4
 al : ats.length = 4
 r : ∀ w (h : w < 4), Z1 σ (ws[w]'(by omega))
theorem Z1.mono {σ σ' : az} {q : Wk} (h : Z1 σ q) (hc : σ'.c = σ.c) (ho : σ.obs.length ≤ σ'.obs.length) : Z1 σ' q := by
 cases q with
 | none => trivial
 | some q => exact Wq.mono (show Wq σ q.2.2 from h) hc ho
theorem ZU.mono {σ σ' : az} {ws : List Wk} {ats : List Nat} (h : ZU σ ws ats) (hc : σ'.c = σ.c) (ho : σ.obs.length ≤ σ'.obs.length) : ZU σ' ws ats :=
 ⟨h.l, h.al, fun w hw => (h.r w hw).mono hc ho⟩
theorem ZU.set {σ : az} {ws : List Wk} {ats : List Nat} (h : ZU σ ws ats) {w : Nat} (hw : w < 4) {q : Wk} (a : Nat) (hq : Z1 σ q) : ZU σ (ws.set w q) (ats.set w a) := by
 refine ⟨by simp [h.l], by simp [h.al], fun w' hw' => ?_⟩;rw [List.getElem_set]
 by_cases e : w = w'
 ·rw [if_pos e]; exact hq
 ·rw [if_neg e]; exact h.r w' hw'
theorem pH {α : Type} {l : List α} {i : Nat} (h : i < l.length) : l.set i l[i] = l := List.set_getElem_self h
theorem Nd : ak .ptr .eql (.pointer none) (.pointer none) = some (vb true) := rfl
theorem UH : ak .ptr .neq (.pointer none) (.pointer none) = some (vb false) := rfl
theorem XF (b : Nat) : ak .ptr .neq (vp b) (.pointer none) = some (vb true) := rfl
abbrev lW := Option Addr × Nat × Nat
abbrev HF (x : lW) : Value := .slice x.1 x.2.1 x.2.2
abbrev jt (x : lW) : List Value := [HF x]
instance : Enc jt 1 := ⟨fun _ => rfl, fun _ => rfl, by omega⟩
def dz : List (lW × List Cl) → SP
 | [] => emp
 | q :: l => ts 4 Cl.cells (HF q.1) q.2 * dz l
theorem tQ : ∀ {LL : List (lW × List Cl)} {i : Nat} (h : i < LL.length), ∃ R, dz LL = ts 4 Cl.cells (HF LL[i].1) LL[i].2 * R ∧ ∀ q, dz (LL.set i q) = ts 4 Cl.cells (HF q.1) q.2 * R := by
 intro LL
 induction LL with
 | nil => intro i h; simp at h
 | cons q LL ih =>
  intro i h
  cases i with
  | zero => exact ⟨dz LL, rfl, fun q => rfl⟩
  | succ i =>
   obtain ⟨R, e1, e2⟩ := ih (i := i) (by simpa using h);refine ⟨ts 4 Cl.cells (HF q.1) q.2 * R, ?_, fun q' => ?_⟩
   ·show ts 4 Cl.cells (HF q.1) q.2 * dz LL = _
    rw [e1, bo]; rfl
   ·show ts 4 Cl.cells (HF q.1) q.2 * dz (LL.set i q') = _
    rw [e2, bo]
theorem Ci {LL : List (lW × List Cl)} {i : Nat} (h : i < LL.length) : Rd (dz LL) (HF LL[i].1) 4 Cl.cells LL[i].2 := by
 obtain ⟨R, e1, _⟩ := tQ h;rw [e1]; infer_instance
abbrev bK (LL : List (lW × List Cl)) : List lW := LL.map fun q : lW × List Cl => q.1
structure AfterR (σ σ' : az) (k : Nat) : Prop where
 si : SI σ' k
 c : σ'.c = σ.c
 obs : σ'.obs.length = σ.obs.length
section
variable (p x : Nat) (rp : List Nat) (σ : az) (K : Nat)
end
instance {c : Bool} {e1 : Option Value} {k : Value → OV} : Gd ((uR (yv undef) c e1 (some undef)).bind k) (k undef) := ⟨fun h => by cases c <;> exact h⟩
section
variable (p x pb tb ab : Nat) (lb : Nat) (LL : List (lW × List Cl)) (pv : Value) (picks : List Int) (blows : Bool) (most : Nat)
variable (I : az → List Wk → Prop)
variable (x10 x11 : Value) (Z : SP)
variable (hL : LL.length = 4) (hQ : ∀ q ∈ LL, q.2.length ≤ 1000) (hm : most ≤ 4000) [hP : Rd Z pv 1 dC picks]
variable (hIs : ∀ (σ : az) (ws : List Wk) (w : Nat) (q : Nat × Nat × Tk) (now : Int) (K : Nat), K < 60000 → SI σ K → ws.length = 4 → ws[w]? = some (some q) → Wq σ q.2.2 → I σ ws →
 I (pJ σ q.2.2 now).1 (ws.set w (if (pJ σ q.2.2 now).2.2 = true then none else some (q.1, q.2.1, (pJ σ q.2.2 now).2.1))))
variable (hIb : ∀ (σ : az) (ws : List Wk) (w e xk : Nat) (place : Int) (c : Cl), bM σ.c = true → ws.length = 4 → ws[w]? = some none → I σ ws → I (σ.begin w place) (ws.set w (some (e, xk, Tk.newA σ.c w c))))
variable (hIt : blows = true → ∀ (σ σ' : az) (ws : List Wk) (k : Nat), AfterR σ σ' k → I σ ws → I σ' ws)
include hL hm hP hIs hIb hIt
end


def RQ (c : List Int) (i : Nat) : Int := (c[i]?).getD 0
def Wr (a b : List Int) : Prop := ∀ i, RQ a i ≤ RQ b i
theorem Wr.refl (a : List Int) : Wr a a := fun _ => Int.le_refl _
theorem Wr.trans {a b c : List Int} (h : Wr a b) (k : Wr b c) : Wr a c := fun i => Int.le_trans (h i) (k i)
structure CY (c : List Int) (n : Nat) : Prop where
 len : c.length ≤ 64
 v : ∀ x ∈ c, 0 ≤ x ∧ x ≤ n
theorem CY.mono {c : List Int} {n m : Nat} (h : CY c n) (k : n ≤ m) : CY c m := ⟨h.len, fun x hx => ⟨(h.v x hx).1, by have := (h.v x hx).2; omega⟩⟩
theorem CY.nil (n : Nat) : CY [] n := ⟨Nat.zero_le _, fun x h => by cases h⟩
theorem CY.at {c : List Int} {n : Nat} (h : CY c n) (i : Nat) : 0 ≤ RQ c i ∧ RQ c i ≤ n := by
 unfold RQ
 cases e : c[i]? with
 | none => exact ⟨Int.le_refl _, by show (0 : Int) ≤ _; omega⟩
 | some x => exact h.v x (List.mem_of_getElem? e)
section
variable {P : SP} {H : AH} {Q : Value → AH → Prop}
end
structure Ticked (a c : List Int) (n : Nat) : Prop where
 ok : CY c (n + 1)
 le : Wr a c
section
variable {P : SP} {s : Value} {E : List Ev} [r : Rd P s 5 Ev.cells E] (hE : E.length < 100000)
include hE
end
abbrev Ck := lW × List Int
structure CkE (E : List Ev) (CC : List Ck) : Prop where
 ok : ∀ (j : Nat) (h : j < CC.length), CY CC[j].2 (j + 1)
 edge : ∀ (j : Nat) (h : j < CC.length) (k : Nat) (hk : k < j), NS E k j ∨ Rl E k j → Wr CC[k].2 CC[j].2
theorem CkE.hb {E : List Ev} {CC : List Ck} (h : CkE E CC) (hl : CC.length = E.length) {i j : Nat} (b : HB E i j) : ∀ (hj : j < CC.length), ∃ hi : i < CC.length, Wr CC[i].2 CC[j].2 := by
 induction b with
 | refl => exact fun hj => ⟨hj, Wr.refl _⟩
 | own b o ih =>
  intro hj;have hk := o.lt;obtain ⟨hi, le⟩ := ih (by omega);exact ⟨hi, le.trans (h.edge _ hj _ hk (.inl o))⟩
 | fnd b o ih =>
  intro hj;have hk := o.lt;obtain ⟨hi, le⟩ := ih (by omega);exact ⟨hi, le.trans (h.edge _ hj _ hk (.inr o))⟩
section
variable {P : SP} {s : Value} {E : List Ev} [r : Rd P s 5 Ev.cells E] (hE : E.length < 100000) (hR : ∀ x ∈ E, EvR x)
include hE hR
end
def de (ws : List Wk) (w : Nat) : Option Tk := match ws[w]? with
 | some (some q) => some q.2.2
 | _ => none
theorem RI.congr {σ : az} {tk tk' : Nat → Option Tk} (h : RI σ tk) (e : ∀ w, w < 4 → tk' w = tk w) : RI σ tk' := by
 obtain ⟨G, R, T⟩ := h;exact ⟨G, R, fun w t hw ht => T w t hw (by rw [← e w hw]; exact ht)⟩
theorem qx {ws : List Wk} {w : Nat} {q : Wk} (hw : w < ws.length) (k : Nat) : de (ws.set w q) k = if k = w then q.map (fun z => z.2.2) else de ws k := by
 unfold de
 by_cases e : k = w
 ·subst e
  rw [if_pos rfl, List.getElem?_set_self hw]
  cases q <;> rfl
 ·rw [if_neg e, List.getElem?_set_ne (fun h => e h.symm)]
def RJ (σ : az) (ws : List Wk) : Prop := RI σ (de ws)
theorem w5 {ws : List Wk} {w : Nat} {q : Wk} (h : ws[w]? = some q) : w < ws.length := by
 rcases Nat.lt_or_ge w ws.length with h2 | h2
 ·exact h2
 ·rw [List.getElem?_eq_none h2] at h; cases h
theorem RJ.step {σ : az} {ws : List Wk} {w : Nat} {q : Nat × Nat × Tk} {now : Int} {K : Nat} (hK : K < 60000) (S : SI σ K) (hl : ws.length = 4) (hw : ws[w]? = some (some q)) (M : RJ σ ws) :
 RJ (pJ σ q.2.2 now).1 (ws.set w (if (pJ σ q.2.2 now).2.2 = true then none else some (q.1, q.2.1, (pJ σ q.2.2 now).2.1))) := by
 have hwl := w5 hw;have hob := S.obs;have h1 := RI.step (w := w) (t := q.2.2) (r := pJ σ q.2.2 now) M (by omega) (by unfold de; rw [hw]) (fun h => Vz h (by omega) now);refine RI.congr h1 fun k hk => ?_;rw [qx hwl]
 by_cases e : k = w
 ·rw [if_pos e, if_pos e]
  split <;> rfl
 ·rw [if_neg e, if_neg e]
theorem RJ.begin {σ : az} {ws : List Wk} {w e xk : Nat} {place : Int} {c : Cl} (hl : ws.length = 4) (hw : ws[w]? = some none) (M : RJ σ ws) : RJ (σ.begin w place) (ws.set w (some (e, xk, Tk.newA σ.c w c))) := by
 have hwl := w5 hw
 have q : (Tk.newA σ.c w c).who = w ∧ (Tk.newA σ.c w c).at' = 0 := by
  unfold Tk.newA
  split <;> exact ⟨rfl, rfl⟩
 have h1 : RI (σ.begin w place) (fun k => if k = w then some (Tk.newA σ.c w c) else de ws k) := RI.new (σ := σ.begin w place) (tk := de ws) M q.1 q.2;refine RI.congr h1 fun k hk => ?_;rw [qx hwl]
 rfl
theorem RJ.start {c : eR} (hc : bM c = true) (n : Nat) (hn : n ≤ 16) : RJ (az.made c n) [none, none, none, none] := by
 obtain ⟨G, R⟩ := RG.made hc n hn;refine ⟨G, R, fun w t hw ht => ?_⟩
 have : w = 0 ∨ w = 1 ∨ w = 2 ∨ w = 3 := by omega
 rcases this with rfl | rfl | rfl | rfl <;> cases ht
section
variable (x0 x1 x2 x3 x4 x5 x6 x7 x10 x11 x12 x13 x14 x15 x16 x17 x22 : Value) (H : AH)
noncomputable def iO (p : List Nat) : Code := Code.sub (bX Tryz.f8) p
noncomputable def kP : KK := ge PP (Tryz.f8).results.toList
noncomputable def Ys : KK := CQ (iO [1, 1, 1, 1, 1, 1]) kP bV kP
noncomputable def jH : OV := Ys (ls [u, u, u, u, u, u, x6, x7, u, u, u, x11] 137) H
noncomputable def TB : KK := CQ (iO [1, 1, 1, 1, 1, 1, 1]) kP bV kP
noncomputable def Yp : KK := gk 713623846352979940529142984724747568191371071 TB
noncomputable def nX : OV := TB (ls [u, u, u, u, u, u, x6, x7, u, u, u, x11] 137) H
noncomputable def TC : KK := CQ (iO [1, 1, 1, 1, 1, 1, 1, 1]) kP bV kP
noncomputable def Yq : KK := gk 713623846352979940529142984724747568191373247 TC
noncomputable def nY : OV := TC (ls [u, u, u, u, u, u, x6] 142) H
noncomputable def Yt : KK := CQ (iO [1, 1, 1, 1, 1, 1, 1, 0, 1]) Yq bV kP
noncomputable def nZ : OV := Yt (ls [u, u, u, u, u, u, x6, x7, u, u, u, x11, u, u, u, x15] 133) H
noncomputable def TV : KX := BX 4 Yq bV
noncomputable def MJ : KX := uQ 713623846352979940529142984724747568191373247 TV
noncomputable def TS : KK := CX (iO [1, 1, 1, 1, 1, 1, 1, 0, 1, 4, 5]) MJ kP
noncomputable def Yr : KK := gk 713623846352979940529142984724747568191338303 TS
noncomputable def gl : OV := TS (ls [u, u, u, u, u, u, x6, x7, u, u, u, x11, u, u, u, x15] 133) H
noncomputable def Yu : KK := CQ (iO [1, 1, 1, 1, 1, 1, 1, 0, 1, 4, 5, 1]) Yr MJ kP
noncomputable def n0 : OV := Yu (ls [u, u, u, u, u, u, x6, x7, u, u, u, x11, u, u, u, x15] 133) H
noncomputable def TT : KK := CQ (iO [1, 1, 1, 1, 1, 1, 1, 0, 1, 4, 5, 1, 1]) Yr MJ kP
noncomputable def aaJ : KK := gk 713623846352979940529142984724747568191338303 TT
noncomputable def n4 : OV := TT (ls [u, u, u, u, u, u, x6, x7, u, u, u, x11, u, u, u, x15] 133) H
noncomputable def aaK : KX := BX 5 aaJ MJ
noncomputable def lE : OV := TV 4 (ls [u, u, u, u, u, u, x6] 142) H
noncomputable def TD : KK := CQ (iO [1, 1, 1, 1, 1, 1, 0, 1]) Yp bV kP
noncomputable def mH : OV := TD (ls [u, u, u, u, u, u, x6, x7, u, u, u, x11, x12] 136) H
noncomputable def I9 : KX := BX 0 Yp bV
noncomputable def Eb : KX := uQ 713623846352979940529142984724747568191371071 I9
noncomputable def I4 : KK := CX (iO [1, 1, 1, 1, 1, 1, 0, 1, 4, 5]) Eb kP
noncomputable def Tx : KK := gk 713623846352979940529142984724747568191366975 I4
noncomputable def fI : OV := I4 (ls [u, u, u, u, u, u, x6, x7, u, u, u, x11, x12] 136) H
noncomputable def TH : KK := CQ (iO [1, 1, 1, 1, 1, 1, 0, 1, 4, 5, 1]) Tx Eb kP
noncomputable def mI : OV := TH (ls [u, u, u, u, u, u, x6, x7, u, u, u, x11, x12] 136) H
noncomputable def I5 : KK := CQ (iO [1, 1, 1, 1, 1, 1, 0, 1, 4, 5, 1, 1]) Tx Eb kP
noncomputable def I3 : KK := gk 713623846352979940529142984724747568191366975 I5
noncomputable def mJ : OV := I5 (ls [u, u, u, u, u, u, x6, x7, u, u, u, x11, x12] 136) H
noncomputable def TU : KX := BX 1 I3 Eb
noncomputable def Ec : KX := uQ 713623846352979940529142984724747568191366975 TU
noncomputable def TJ : KK := CQ (iO [1, 1, 1, 1, 1, 1, 0, 1, 4, 5, 1, 0, 4, 1]) I3 Ec kP
noncomputable def mK : OV := TJ (ls [u, u, u, u, u, u, x6, x7, u, u, u, x11, x12, x13] 135) H
noncomputable def I6 : KK := CQ (iO [1, 1, 1, 1, 1, 1, 0, 1, 4, 5, 1, 0, 4, 1, 1]) I3 Ec kP
noncomputable def Tz : KK := gk 713623846352979940529142984724747568191358783 I6
noncomputable def mL : OV := I6 (ls [u, u, u, u, u, u, x6, x7, u, u, u, x11, x12, x13] 135) H
noncomputable def TM : KK := CQ (iO [1, 1, 1, 1, 1, 1, 0, 1, 4, 5, 1, 0, 4, 1, 0, 1]) Tz Ec kP
noncomputable def mM : OV := TM (ls [u, u, u, u, u, u, x6, x7, u, u, u, x11, x12, x13, x14] 134) H
noncomputable def Ja : KX := BX 2 Tz Ec
noncomputable def Ed : KX := uQ 713623846352979940529142984724747568191358783 Ja
noncomputable def I7 : KK := CX (iO [1, 1, 1, 1, 1, 1, 0, 1, 4, 5, 1, 0, 4, 1, 0, 1, 4, 5]) Ed kP
noncomputable def TA : KK := gk 713623846352979940529142984724747568191342399 I7
noncomputable def fJ : OV := I7 (ls [u, u, u, u, u, u, x6, x7, u, u, u, x11, x12, x13, x14] 134) H
noncomputable def TO : KK := CQ (iO [1, 1, 1, 1, 1, 1, 0, 1, 4, 5, 1, 0, 4, 1, 0, 1, 4, 5, 1]) TA Ed kP
noncomputable def mN : OV := TO (ls [u, u, u, u, u, u, x6, x7, u, u, u, x11, x12, x13, x14] 134) H
noncomputable def I8 : KK := CQ (iO [1, 1, 1, 1, 1, 1, 0, 1, 4, 5, 1, 0, 4, 1, 0, 1, 4, 5, 1, 1]) TA Ed kP
noncomputable def Zh : KK := gk 713623846352979940529142984724747568191342399 I8
noncomputable def mO : OV := I8 (ls [u, u, u, u, u, u, x6, x7, u, u, u, x11, x12, x13, x14] 134) H
noncomputable def Zi : KX := BX 3 Zh Ed
noncomputable def kS : OV := Ja 2 (ls [u, u, u, u, u, u, x6, x7, u, u, u, x11, x12, x13] 135) H
noncomputable def kR : OV := I9 0 (ls [u, u, u, u, u, u, x6, x7, u, u, u, x11] 137) H
theorem dK : au 713623846352979940529142984724747568191373247 kP := rf
theorem Xp : au 713623846352979940529142984724747568191371071 Ys := rc dK aJ dK
theorem D9 : au 713623846352979940529142984724747568191371071 TB := rc dK aJ dK
theorem Ea : au 713623846352979940529142984724747568191373247 TC := rc dK aJ dK
theorem Xq : au 713623846352979940529142984724747568191338303 Yt := rc (cd Ea) aJ dK
theorem tD : ∀ i, au 713623846352979940529142984724747568191373247 (TV i) := rb (cd Ea) aJ
theorem yp : au 713623846352979940529142984724747568191338303 TS := rl (cx tD) dK
theorem Xr : au 713623846352979940529142984724747568191338303 Yu := rc (cd yp) (cx tD) dK
theorem MI : au 713623846352979940529142984724747568191338303 TT := rc (cd yp) (cx tD) dK
theorem Xs : ∀ i, au 713623846352979940529142984724747568191338303 (aaK i) := rb (cd MI) (cx tD)
theorem TG : au 713623846352979940529142984724747568191366975 TD := rc (cd D9) aJ dK
theorem oU : ∀ i, au 713623846352979940529142984724747568191371071 (I9 i) := rb (cd D9) aJ
theorem tA : au 713623846352979940529142984724747568191366975 I4 := rl (cx oU) dK
theorem TI : au 713623846352979940529142984724747568191366975 TH := rc (cd tA) (cx oU) dK
theorem tB : au 713623846352979940529142984724747568191366975 I5 := rc (cd tA) (cx oU) dK
theorem oV : ∀ i, au 713623846352979940529142984724747568191366975 (TU i) := rb (cd tB) (cx oU)
theorem TL : au 713623846352979940529142984724747568191358783 TJ := rc (cd tB) (cx oV) dK
theorem zO : au 713623846352979940529142984724747568191358783 I6 := rc (cd tB) (cx oV) dK
theorem TN : au 713623846352979940529142984724747568191342399 TM := rc (cd zO) (cx oV) dK
theorem oW : ∀ i, au 713623846352979940529142984724747568191358783 (Ja i) := rb (cd zO) (cx oV)
theorem tC : au 713623846352979940529142984724747568191342399 I7 := rl (cx oW) dK
theorem TQ : au 713623846352979940529142984724747568191342399 TO := rc (cd tC) (cx oW) dK
theorem Ge : au 713623846352979940529142984724747568191342399 I8 := rc (cd tC) (cx oW) dK
theorem TX : ∀ i, au 713623846352979940529142984724747568191342399 (Zi i) := rb (cd Ge) (cx oW)
theorem rU : nY x6 H =
 some ((vb true), H) :=
 (by kernel_rfl)
theorem rX : n4 x6 x7 x11 x15 H =
 (ak .other .add x15 (vi 1)).bind fun v8 =>
 gl x6 x7 x11 v8 H :=
 (by kernel_rfl)
theorem rW : n0 x6 x7 x11 x15 H =
 ld [.f 0] x7 H fun v10 =>
 (FF ei [v10, x15] H).bind fun r11 =>
 (ak .ptr .eql r11.1 (.pointer none)).bind fun v12 =>
 (gV v12 false x11).bind fun v13 =>
 (gV v12 false x15).bind fun v14 =>
 yq v12 false  [.i 1 v14] v13 fun v15 =>
 (gB v12 false (am v15 r11.2)).bind fun v16 =>
 (gV v12 false r11.1).bind fun v17 =>
 (gE v12 false r11.2 (FF dV [v17, (vi 0)] r11.2)).bind fun r18 =>
 bw (am v15 r18.2) (am v15 r11.2) <|
 (gB v12 false (ak .other .neq r18.1 (vw 0))).bind fun v19 =>
 (gB v12 false (ak .bool .neq v16 v19)).bind fun v20 =>
 (aQ v12 (vb true) v20).bind fun v21 =>
 ax v21
 (some ((vb false), r18.2))
 (n4 x6 x7 x11 x15 r18.2) :=
 (pt rfl 0 MI (bt rfl (iO [1, 1, 1, 1, 1, 1, 1, 0, 1, 4, 5, 1, 0, 4]) 5 Xs (by kernel_rfl)))
theorem o6 : lE x6 H = nY x6 H :=
 (by kernel_rfl)
theorem kT : gl x6 x7 x11 x15 H =
 fq x11 fun v22 =>
 (ak .other .lss x15 v22).bind fun v23 =>
 ax v23
 (n0 x6 x7 x11 x15 H)
 (lE x6 H) :=
 yx rfl yp (pt rfl 0 Xr (by kernel_rfl))
theorem rV : nZ x6 x7 x11 x15 H =
 gl x6 x7 x11 x15 H :=
 (bt rfl (iO [1, 1, 1, 1, 1, 1, 1, 0, 1, 4]) 4 tD (li rfl (iO [1, 1, 1, 1, 1, 1, 1, 0, 1, 4, 5]) yp (by kernel_rfl)))
theorem rT : nX x6 x7 x11 H =
 nZ x6 x7 x11 (vi 0) H :=
 (pt rfl 0 Ea (pt rfl 0 Xq (by kernel_rfl)))
theorem qG : mJ x6 x7 x11 x12 H =
 (ak .other .add x12 (vi 1)).bind fun v29 =>
 fI x6 x7 x11 v29 H :=
 (by kernel_rfl)
theorem qI : mL x6 x7 x11 x12 x13 H =
 (ak .other .neq x13 (vw 0)).bind fun v33 =>
 ax v33
 (some ((vb false), H))
 (mJ x6 x7 x11 x12 H) :=
 (by kernel_rfl)
theorem qL : mO x6 x7 x11 x12 x13 x14 H =
 (ak .other .add x14 (vi 1)).bind fun v39 =>
 fJ x6 x7 x11 x12 x13 v39 H :=
 (by kernel_rfl)
theorem qK : mN x6 x7 x11 x12 x13 x14 H =
 fq x11 fun v41 =>
 (bO (some .u64) v41).bind fun v42 =>
 (ak .other .gtr x13 v42).bind fun v43 =>
 (gV v43 false x11).bind fun v44 =>
 (gV v43 false x13).bind fun v45 =>
 (gB v43 false (ak .other .sub v45 (vw 1))).bind fun v46 =>
 fH v43 false  [.i 1 v46] v44 H fun v47 =>
 (aQ v43 (vb true) v47).bind fun v48 =>
 fH v48 false  [.f 0] x7 H fun v49 =>
 (gV v48 false x13).bind fun v50 =>
 (gB v48 false (ak .other .sub v50 (vw 1))).bind fun v51 =>
 (gB v48 false (bO (some .i64) v51)).bind fun v52 =>
 (gE v48 false H (FF dq [v49, (vi 0), v52] H)).bind fun r53 =>
 (gB v48 false (jC none 0 r53.1)).bind fun v54 =>
 yq v48 false  [.f 1] x7 fun v55 =>
 (gB v48 false (am v55 r53.2)).bind fun v56 =>
 bw (am v55 H) (am v55 r53.2) <|
 yq v48 false  [.n, .f 0, .f 0] v56 fun v57 =>
 (gB v48 false (am v57 r53.2)).bind fun v58 =>
 bw (am v57 H) (am v57 r53.2) <|
 (gB v48 false (ak .other .rem v54 v58)).bind fun v59 =>
 (gV v48 false x12).bind fun v60 =>
 (gB v48 false (ak .other .neq v59 v60)).bind fun v61 =>
 (aQ v48 (vb true) v61).bind fun v62 =>
 ax v62
 (some ((vb false), r53.2))
 ((ak .other .sub x13 (vw 1)).bind fun v63 =>
 st 1 [.i 1 v63] x11 (vb true) r53.2 fun H64 =>
 ld [.f 0] x7 H64 fun v65 =>
 ld [.n, .f 1] v65 H64 fun v66 =>
 (ak .other .sub x13 (vw 1)).bind fun v67 =>
 (bO (some .i64) v67).bind fun v68 =>
 (FF gL [v66, (vi 0), v68] H64).bind fun r69 =>
 mO x6 x7 x11 x12 r69.1 x14 r69.2) :=
 (pt rfl 0 Ge (bt rfl (iO [1, 1, 1, 1, 1, 1, 0, 1, 4, 5, 1, 0, 4, 1, 0, 1, 4, 5, 1, 0, 4]) 3 TX (by kernel_rfl)))
theorem oq : kS x6 x7 x11 x12 x13 H = mL x6 x7 x11 x12 x13 H :=
 (by kernel_rfl)
theorem jS : fJ x6 x7 x11 x12 x13 x14 H =
 (ak .other .lss x14 (vi 20)).bind fun v70 =>
 (gV v70 true x13).bind fun v71 =>
 (gB v70 true (ak .other .neq v71 (vw 0))).bind fun v72 =>
 (aQ v70 v72 (vb false)).bind fun v73 =>
 ax v73
 (mN x6 x7 x11 x12 x13 x14 H)
 (kS x6 x7 x11 x12 x13 H) :=
 yx rfl tC (pt rfl 0 TQ (by kernel_rfl))
theorem qJ : mM x6 x7 x11 x12 x13 x14 H =
 fJ x6 x7 x11 x12 x13 x14 H :=
 (bt rfl (iO [1, 1, 1, 1, 1, 1, 0, 1, 4, 5, 1, 0, 4, 1, 0, 1, 4]) 2 oW (li rfl (iO [1, 1, 1, 1, 1, 1, 0, 1, 4, 5, 1, 0, 4, 1, 0, 1, 4, 5]) tC (by kernel_rfl)))
theorem qH : mK x6 x7 x11 x12 x13 H =
 mM x6 x7 x11 x12 x13 (vi 0) H :=
 (pt rfl 0 zO (pt rfl 0 TN (by kernel_rfl)))
theorem qF : mI x6 x7 x11 x12 H =
 ld [.f 0] x7 H fun v74 =>
 ld [.n, .f 1] v74 H fun v75 =>
 (FF gJ [v75, (vi 0), x12] H).bind fun r76 =>
 mK x6 x7 x11 x12 r76.1 r76.2 :=
 (pt rfl 0 tB (bt rfl (iO [1, 1, 1, 1, 1, 1, 0, 1, 4, 5, 1, 0, 4]) 1 oV (pt rfl 0 TL (by kernel_rfl))))
theorem oo : kR x6 x7 x11 H = nX x6 x7 x11 H :=
 (by kernel_rfl)
theorem jR : fI x6 x7 x11 x12 H =
 ld [.f 1] x7 H fun v77 =>
 ld [.n, .f 0, .f 0] v77 H fun v78 =>
 (ak .other .lss x12 v78).bind fun v79 =>
 ax v79
 (mI x6 x7 x11 x12 H)
 (kR x6 x7 x11 H) :=
 yx rfl tA (pt rfl 0 TI (by kernel_rfl))
theorem qE : mH x6 x7 x11 x12 H =
 fI x6 x7 x11 x12 H :=
 (bt rfl (iO [1, 1, 1, 1, 1, 1, 0, 1, 4]) 0 oU (li rfl (iO [1, 1, 1, 1, 1, 1, 0, 1, 4, 5]) tA (by kernel_rfl)))
theorem rS : jH x6 x7 x11 H =
 mH x6 x7 x11 (vi 0) H :=
 (pt rfl 0 D9 (pt rfl 0 TG (by kernel_rfl)))
noncomputable def El : OV := aW PP GG FF (iO []) (ls [x0, x1, x2] 146) H kP bV kP
theorem xi {r : Value × AH} (h : (
 aV (Value.cells x0).toList H fun v80 H81 =>
 (aB 5 v80 H81).bind fun v82 =>
 (FF r8 [v82, (vi 4)] H81).bind fun r83 =>
 (ai r83.1 0).bind fun v84 =>
 (ai r83.1 1).bind fun v85 =>
 aV [(.pointer none), (.pointer none)] r83.2 fun v86 H87 =>
 (dg 2 v86 v84 H87).bind fun H88 =>
 (FF pd [] H88).bind fun r89 =>
 (pw .not r89.1).bind fun v90 =>
 (gV v90 false v85).bind fun v91 =>
 (gB v90 false (pw .not v91)).bind fun v92 =>
 (aQ v90 (vb true) v92).bind fun v93 =>
 ax v93
 (some ((vb false), r89.2))
 ((aB 2 v86 r89.2).bind fun v94 =>
 (FF j2 [x1, (vi 20)] r89.2).bind fun r95 =>
 bw (aB 2 v86 r95.2) (aB 2 v86 r89.2) <|
 (FF M1 [x2, (vi 9), (vi 300)] r95.2).bind fun r96 =>
 bw (aB 2 v86 r96.2) (aB 2 v86 r89.2) <|
 (FF M0 [v94, r95.1, r96.1, (vi 2400), (vb false)] r96.2).bind fun r97 =>
 (ai r97.1 0).bind fun v98 =>
 (ai r97.1 1).bind fun v99 =>
 (pw .not v99).bind fun v100 =>
 (gV v100 false v98).bind fun v101 =>
 (gB v100 false (pw .not v101)).bind fun v102 =>
 (aQ v100 (vb true) v102).bind fun v103 =>
 fH v103 false  [.f 0] v86 r97.2 fun v104 =>
 fH v103 false  [.n, .f 1] v104 r97.2 fun v105 =>
 (gE v103 false r97.2 (FF io [v105, (vi 0)] r97.2)).bind fun r106 =>
 (gE v103 false r106.2 (FF se [r106.1] r106.2)).bind fun r107 =>
 (gB v103 false (pw .not r107.1)).bind fun v108 =>
 (aQ v103 (vb true) v108).bind fun v109 =>
 ax v109
 (some ((vb false), r107.2))
 (ld [.f 0] v86 r107.2 fun v110 =>
 (FF gP [v110] r107.2).bind fun r111 =>
 (jV [(vb false)] 1 1 r111.1 r111.1 r111.2).bind fun r112 =>
 jH (vb false) v86 r112.1 r112.2))) = some r) : FF iq [x0, x1, x2] H = some r :=
 fo (t := El x0 x1 x2 H) Tryz.func8 (by kernel_rfl) (Eq.trans (pt rfl 5 Xp (by kernel_rfl)) h)
noncomputable def fT (p : List Nat) : Code := Code.sub (bX Tryz.f33) p
noncomputable def gg : KK := ge PP (Tryz.f33).results.toList
noncomputable def SY : KK := CQ (fT [1, 1, 1, 1, 1]) gg bV gg
noncomputable def Uk : OV := SY (ls [u, x1, x2, x3, x4, x5, u, u, u, u, x10, x11, x12, x13, x14, x15] 177) H
noncomputable def IR : KK := CQ (fT [1, 1, 1, 1, 1, 1]) gg bV gg
noncomputable def SV : KK := gk 12554203470773361527671578846415332832204710888928068998141 IR
noncomputable def Jm : OV := IR (ls [u, x1, u, u, u, u, u, u, u, u, x10, x11, u, x13, x14] 178) H
noncomputable def IS : KK := CQ (fT [1, 1, 1, 1, 1, 1, 1]) gg bV gg
noncomputable def SW : KK := gk 12554203470773361527671578846415332832204710888928069022719 IS
noncomputable def Ul : OV := IS (ls [u, u, u, u, u, u, u, u, u, u, x10, x11] 181) H
noncomputable def S0 : KK := CQ (fT [1, 1, 1, 1, 1, 1, 0, 1]) SW bV gg
noncomputable def Um : OV := S0 (ls [u, x1, u, u, u, u, u, u, u, u, x10, x11, u, x13, x14, u, u, u, u, u, u, u, x22] 170) H
noncomputable def IV : KX := BX 2 SW bV
noncomputable def D7 : KX := uQ 12554203470773361527671578846415332832204710888928069022719 IV
noncomputable def IT : KK := CX (fT [1, 1, 1, 1, 1, 1, 0, 1, 4, 5]) D7 gg
noncomputable def SX : KK := gk 12554203470773361527671578846415332832204710888928064803837 IT
noncomputable def Ep : OV := IT (ls [u, x1, u, u, u, u, u, u, u, u, x10, x11, u, x13, x14, u, u, u, u, u, u, u, x22] 170) H
noncomputable def S3 : KK := CQ (fT [1, 1, 1, 1, 1, 1, 0, 1, 4, 5, 1]) SX D7 gg
noncomputable def Un : OV := S3 (ls [u, x1, u, u, u, u, u, u, u, u, x10, x11, u, x13, x14, u, u, u, u, u, u, u, x22] 170) H
noncomputable def IU : KK := CQ (fT [1, 1, 1, 1, 1, 1, 0, 1, 4, 5, 1, 1]) SX D7 gg
noncomputable def Zf : KK := gk 12554203470773361527671578846415332832204710888928064803837 IU
noncomputable def Jt : OV := IU (ls [u, x1, u, u, u, u, u, u, u, u, x10, x11, u, x13, x14, u, u, u, u, u, u, u, x22] 170) H
noncomputable def Zg : KX := BX 3 Zf D7
noncomputable def Gw : OV := IV 2 (ls [u, u, u, u, u, u, u, u, u, u, x10, x11] 181) H
noncomputable def Mn : KK := CQ (fT [1, 1, 1, 1, 1, 0, 1]) SV bV gg
noncomputable def MQ : OV := Mn (ls [u, x1, x2, x3, x4, x5, u, u, u, u, x10, x11, x12, x13, x14, x15, x16] 176) H
noncomputable def D5 : KX := BX 0 SV bV
noncomputable def yn : KX := uQ 12554203470773361527671578846415332832204710888928068998141 D5
noncomputable def D3 : KK := CX (fT [1, 1, 1, 1, 1, 0, 1, 4, 5]) yn gg
noncomputable def Mm : KK := gk 12554203470773361527671578846415332832204710888928068895681 D3
noncomputable def yr : OV := D3 (ls [u, x1, x2, x3, x4, x5, u, u, u, u, x10, x11, x12, x13, x14, x15, x16] 176) H
noncomputable def Mo : KK := CQ (fT [1, 1, 1, 1, 1, 0, 1, 4, 5, 1]) Mm yn gg
noncomputable def MR : OV := Mo (ls [u, x1, x2, x3, x4, x5, u, u, u, u, x10, x11, x12, x13, x14, x15, x16] 176) H
noncomputable def D4 : KK := CQ (fT [1, 1, 1, 1, 1, 0, 1, 4, 5, 1, 1]) Mm yn gg
noncomputable def tu : KK := gk 12554203470773361527671578846415332832204710888928068895681 D4
noncomputable def tO : OV := D4 (ls [u, x1, x2, x3, x4, x5, u, u, u, u, x10, x11, x12, x13, x14, x15, x16] 176) H
noncomputable def D6 : KX := BX 1 tu yn
noncomputable def yo : KX := uQ 12554203470773361527671578846415332832204710888928068895681 D6
noncomputable def Mq : KK := CQ (fT [1, 1, 1, 1, 1, 0, 1, 4, 5, 1, 0, 4, 1]) tu yo gg
noncomputable def MS : OV := Mq (ls [u, x1, x2, x3, x4, x5, u, u, u, u, x10, x11, x12, x13, x14, x15, x16, x17] 175) H
noncomputable def Mr : KK := CQ (fT [1, 1, 1, 1, 1, 0, 1, 4, 5, 1, 0, 4, 1, 1]) tu yo gg
noncomputable def tP : OV := Mr (ls [u, x1, x2, x3, x4, x5, u, u, u, u, x10, x11, x12, x13, x14, x15, x16, x17] 175) H
noncomputable def Ms : KK := CQ (fT [1, 1, 1, 1, 1, 0, 1, 4, 5, 1, 0, 4, 1, 1, 1]) tu yo gg
noncomputable def MT : OV := Ms (ls [u, x1, x2, x3, x4, x5, u, u, u, u, x10, x11, x12, x13, x14, x15, x16, x17] 175) H
noncomputable def Mt : KK := CQ (fT [1, 1, 1, 1, 1, 0, 1, 4, 5, 1, 0, 4, 1, 1, 1, 1]) tu yo gg
noncomputable def yu : OV := Mt (ls [u, x1, x2, x3, x4, x5, u, u, u, u, x10, x11, x12, x13, x14, x15, x16, x17] 175) H
noncomputable def qj : OV := D6 1 (ls [u, x1, x2, x3, x4, x5, u, u, u, u, x10, x11, x12, x13, x14, x15, x16] 176) H
noncomputable def Cg : OV := D5 0 (ls [u, x1, u, u, u, u, u, u, u, u, x10, x11, u, x13, x14] 178) H
theorem db : au 12554203470773361527671578846415332832204710888928069022719 gg := rf
theorem SZ : au 12554203470773361527671578846415332832204710888928068961217 SY := rc db aJ db
theorem zK : au 12554203470773361527671578846415332832204710888928068998141 IR := rc db aJ db
theorem zL : au 12554203470773361527671578846415332832204710888928069022719 IS := rc db aJ db
theorem S2 : au 12554203470773361527671578846415332832204710888928064803837 S0 := rc (cd zL) aJ db
theorem oS : ∀ i, au 12554203470773361527671578846415332832204710888928069022719 (IV i) := rb (cd zL) aJ
theorem tv : au 12554203470773361527671578846415332832204710888928064803837 IT := rl (cx oS) db
theorem S5 : au 12554203470773361527671578846415332832204710888928064803837 S3 := rc (cd tv) (cx oS) db
theorem Gc : au 12554203470773361527671578846415332832204710888928064803837 IU := rc (cd tv) (cx oS) db
theorem S6 : ∀ i, au 12554203470773361527671578846415332832204710888928064803837 (Zg i) := rb (cd Gc) (cx oS)
theorem Ph : au 12554203470773361527671578846415332832204710888928068895681 Mn := rc (cd zK) aJ db
theorem mC : ∀ i, au 12554203470773361527671578846415332832204710888928068998141 (D5 i) := rb (cd zK) aJ
theorem qh : au 12554203470773361527671578846415332832204710888928068895681 D3 := rl (cx mC) db
theorem Pi : au 12554203470773361527671578846415332832204710888928068895681 Mo := rc (cd qh) (cx mC) db
theorem kg : au 12554203470773361527671578846415332832204710888928068895681 D4 := rc (cd qh) (cx mC) db
theorem mD : ∀ i, au 12554203470773361527671578846415332832204710888928068895681 (D6 i) := rb (cd kg) (cx mC)
theorem Pj : au 12554203470773361527671578846415332832204710888928068764609 Mq := rc (cd kg) (cx mD) db
theorem Pl : au 12554203470773361527671578846415332832204710888928068764609 Mr := rc (cd kg) (cx mD) db
theorem Pm : au 12554203470773361527671578846415332832204710888928068764609 Ms := rc (cd kg) (cx mD) db
theorem Pn : au 12554203470773361527671578846415332832204710888928068764609 Mt := rc (cd kg) (cx mD) db
theorem PR : Ul x10 x11 H =
 some (Value.tuple #[(vb true), (vb true)], H) :=
 (by kernel_rfl)
theorem PU : Jt x1 x10 x11 x13 x14 x22 H =
 (ak .other .add x22 (vi 1)).bind fun v8 =>
 Ep x1 x10 x11 x13 x14 v8 H :=
 (by kernel_rfl)
theorem PT : Un x1 x10 x11 x13 x14 x22 H =
 ld [.a 4 1 x22] x13 H fun v10 =>
 (ak .ptr .neq v10 (.pointer none)).bind fun v11 =>
 (gV v11 false x22).bind fun v12 =>
 fH v11 false  [.a 4 1 v12] x14 H fun v13 =>
 (gV v11 false x1).bind fun v14 =>
 (gV v11 false x22).bind fun v15 =>
 fH v11 false  [.i 1 v15] v14 H fun v16 =>
 (uR (yv v11) false (fq v16 some) (some undef)).bind fun v17 =>
 (gB v11 false (ak .other .lss v13 v17)).bind fun v18 =>
 (aQ v11 (vb true) v18).bind fun v19 =>
 ax v19
 (some (Value.tuple #[(vb false), (vb true)], H))
 (Jt x1 x10 x11 x13 x14 x22 H) :=
 (pt rfl 0 Gc (bt rfl (fT [1, 1, 1, 1, 1, 1, 0, 1, 4, 5, 1, 0, 4]) 3 S6 (by kernel_rfl)))
theorem Gx : Gw x10 x11 H = Ul x10 x11 H :=
 (by kernel_rfl)
theorem Ch : Ep x1 x10 x11 x13 x14 x22 H =
 (ak .other .lss x22 (vi 4)).bind fun v20 =>
 (gV v20 true x22).bind fun v21 =>
 (gV v20 true x1).bind fun v22 =>
 (uR (yv v20) true (fq v22 some) (some undef)).bind fun v23 =>
 (gB v20 true (ak .other .lss v21 v23)).bind fun v24 =>
 (aQ v20 v24 (vb false)).bind fun v25 =>
 ax v25
 (Un x1 x10 x11 x13 x14 x22 H)
 (Gw x10 x11 H) :=
 yx rfl tv (pt rfl 0 S5 (by kernel_rfl))
theorem PS : Um x1 x10 x11 x13 x14 x22 H =
 Ep x1 x10 x11 x13 x14 x22 H :=
 (bt rfl (fT [1, 1, 1, 1, 1, 1, 0, 1, 4]) 2 oS (li rfl (fT [1, 1, 1, 1, 1, 1, 0, 1, 4, 5]) tv (by kernel_rfl)))
theorem PQ : Jm x1 x10 x11 x13 x14 H =
 Um x1 x10 x11 x13 x14 (vi 0) H :=
 (pt rfl 0 zL (pt rfl 0 S2 (by kernel_rfl)))
theorem Jp : tO x1 x2 x3 x4 x5 x10 x11 x12 x13 x14 x15 x16 H =
 (ak .other .add x16 (vi 1)).bind fun v31 =>
 yr x1 x2 x3 x4 x5 x10 x11 x12 x13 x14 x15 v31 H :=
 (by kernel_rfl)
theorem Js : yu x1 x2 x3 x4 x5 x10 x11 x12 x13 x14 x15 x16 x17 H =
 ld [.a 4 1 x17] x12 H fun v37 =>
 (FF vD [v37, x15] H).bind fun r38 =>
 (ai r38.1 0).bind fun v39 =>
 (ai r38.1 1).bind fun v40 =>
 aV [(vi 0), (.slice none 0 0), (vi 0), (vw 0)] r38.2 fun v41 H42 =>
 (dg 4 v41 v39 H42).bind fun H43 =>
 ld [.a 4 1 x17] x13 H43 fun v44 =>
 (FF dr [v44, x15] H43).bind fun r45 =>
 (ak .bool .neq v40 r45.1).bind fun v46 =>
 (gB v46 false (aB 4 v41 r45.2)).bind fun v47 =>
 (gV v46 false x17).bind fun v48 =>
 fH v46 false  [.a 4 1 v48] x13 r45.2 fun v49 =>
 (gV v46 false r45.1).bind fun v50 =>
 (gE v46 false r45.2 (FF r9 [v49, v50] r45.2)).bind fun r51 =>
 bw (aB 4 v41 r51.2) (aB 4 v41 r45.2) <|
 (gE v46 false r51.2 (FF r7 [v47, r51.1] r51.2)).bind fun r52 =>
 (gB v46 false (pw .not r52.1)).bind fun v53 =>
 (aQ v46 (vb true) v53).bind fun v54 =>
 fH v54 false  [.f 0] x5 r52.2 fun v55 =>
 fH v54 false  [.n, .f 0] v55 r52.2 fun v56 =>
 (gE v54 false r52.2 (FF gi [v56] r52.2)).bind fun r57 =>
 yq v54 false  [.f 1] x5 fun v58 =>
 (gB v54 false (am v58 r57.2)).bind fun v59 =>
 bw (am v58 r52.2) (am v58 r57.2) <|
 yq v54 false  [.n, .f 5] v59 fun v60 =>
 (gB v54 false (am v60 r57.2)).bind fun v61 =>
 bw (am v60 r52.2) (am v60 r57.2) <|
 yq v54 false  [.n, .f 2] v61 fun v62 =>
 (gB v54 false (am v62 r57.2)).bind fun v63 =>
 bw (am v62 r52.2) (am v62 r57.2) <|
 (uR (yv v54) false (fq v63 some) (some undef)).bind fun v64 =>
 bw (Xx v63) (Xx v63) <|
 (gB v54 false (ak .other .neq r57.1 v64)).bind fun v65 =>
 (aQ v54 (vb true) v65).bind fun v66 =>
 ax v66
 (some (Value.tuple #[(vb false), (vb false)], r57.2))
 ((ak .other .add x15 (vi 1)).bind fun v67 =>
 ax r45.1
 (st 1 [.a 4 1 x17] x13 (.pointer none) r57.2 fun H68 =>
 tO x1 x2 x3 x4 x5 x10 x11 x12 x13 x14 v67 x16 H68)
 (tO x1 x2 x3 x4 x5 x10 x11 x12 x13 x14 v67 x16 r57.2)) :=
 (by kernel_rfl)
theorem z4 : MT x1 x2 x3 x4 x5 x10 x11 x12 x13 x14 x15 x16 x17 H =
 ld [.a 4 1 x17] x13 H fun v69 =>
 (ak .ptr .eql v69 (.pointer none)).bind fun v70 =>
 ax v70
 (ld [.i 1 x17] x1 H fun v71 =>
 ld [.a 4 1 x17] x14 H fun v72 =>
 ldN 4 [.i 4 v72] v71 H fun v73 =>
 aV [(vi 0), (vi 0), (vi 0), (vi 0)] H fun v74 H75 =>
 (dg 4 v74 v73 H75).bind fun H76 =>
 (aB 2 x5 H76).bind fun v77 =>
 ld [.a 4 1 x17] x14 H76 fun v78 =>
 (FF iW [v77, x17, v78] H76).bind fun r79 =>
 ld [.f 0] x5 r79.2 fun v80 =>
 (aB 4 v74 r79.2).bind fun v81 =>
 (FF vE [v80, x17, v81] r79.2).bind fun r82 =>
 ad [.f 1] x5 fun v83 =>
 (am v83 r82.2).bind fun v84 =>
 bw (am v83 r79.2) (am v83 r82.2) <|
 (aB 4 v74 r82.2).bind fun v85 =>
 bw (aB 4 v74 r79.2) (aB 4 v74 r82.2) <|
 (FF mh [v84, x17, v85] r82.2).bind fun r86 =>
 st 1 [.a 4 1 x17] x12 r82.1 r86.2 fun H87 =>
 st 1 [.a 4 1 x17] x13 r86.1 H87 fun H88 =>
 ld [.a 4 1 x17] x14 H88 fun v89 =>
 (ak .other .add v89 (vi 1)).bind fun v90 =>
 st 1 [.a 4 1 x17] x14 v90 H88 fun H91 =>
 ld [.a 4 1 x17] x12 H91 fun v92 =>
 (ak .ptr .eql v92 (.pointer none)).bind fun v93 =>
 ax v93
 (some (Value.tuple #[(vb false), (vb false)], H91))
 (yu x1 x2 x3 x4 x5 x10 x11 x12 x13 x14 x15 x16 x17 H91))
 (yu x1 x2 x3 x4 x5 x10 x11 x12 x13 x14 x15 x16 x17 H) :=
 (pt rfl 0 Pn (by kernel_rfl))
theorem Eo : qj x1 x2 x3 x4 x5 x10 x11 x12 x13 x14 x15 x16 H = tO x1 x2 x3 x4 x5 x10 x11 x12 x13 x14 x15 x16 H :=
 (by kernel_rfl)
theorem Jr : tP x1 x2 x3 x4 x5 x10 x11 x12 x13 x14 x15 x16 x17 H =
 ld [.a 4 1 x17] x13 H fun v94 =>
 (ak .ptr .eql v94 (.pointer none)).bind fun v95 =>
 (gV v95 true x17).bind fun v96 =>
 (gV v95 true x1).bind fun v97 =>
 (uR (yv v95) true (fq v97 some) (some undef)).bind fun v98 =>
 (gB v95 true (ak .other .geq v96 v98)).bind fun v99 =>
 (gV v95 true v99).bind fun v100 =>
 (gV v100 false x17).bind fun v101 =>
 fH v100 false  [.a 4 1 v101] x14 H fun v102 =>
 (gV v100 false x1).bind fun v103 =>
 (gV v100 false x17).bind fun v104 =>
 fH v100 false  [.i 1 v104] v103 H fun v105 =>
 (uR (yv v100) false (fq v105 some) (some undef)).bind fun v106 =>
 (gB v100 false (ak .other .geq v102 v106)).bind fun v107 =>
 (gB v95 true (aQ v100 (vb true) v107)).bind fun v108 =>
 (aQ v95 v108 (vb false)).bind fun v109 =>
 ax v109
 (qj x1 x2 x3 x4 x5 x10 x11 x12 x13 x14 x15 x16 H)
 (MT x1 x2 x3 x4 x5 x10 x11 x12 x13 x14 x15 x16 x17 H) :=
 (pt rfl 0 Pm (by kernel_rfl))
theorem Jq : MS x1 x2 x3 x4 x5 x10 x11 x12 x13 x14 x15 x16 x17 H =
 fq x2 fun v110 =>
 (ak .other .lss x16 v110).bind fun v111 =>
 ax v111
 (ld [.i 1 x16] x2 H fun v112 =>
 (FF bd [v112, (vi 9)] H).bind fun r113 =>
 (ak .other .eql r113.1 (vi 8)).bind fun v114 =>
 (gV v114 true x4).bind fun v115 =>
 (aQ v114 v115 (vb false)).bind fun v116 =>
 ax v116
 ((aB 2 x5 r113.2).bind fun v117 =>
 ld [.i 1 x16] x2 r113.2 fun v118 =>
 (ak .other .quo v118 (vi 9)).bind fun v119 =>
 (ak .other .add v119 x16).bind fun v120 =>
 (FF xx [v117, v120] r113.2).bind fun r121 =>
 (pw .not r121.1).bind fun v122 =>
 ax v122
 (some (Value.tuple #[(vb false), (vb false)], r121.2))
 (qj x1 x2 x3 x4 x5 x10 x11 x12 x13 x14 x15 x16 r121.2))
 ((ak .other .rem r113.1 (vi 4)).bind fun v123 =>
 tP x1 x2 x3 x4 x5 x10 x11 x12 x13 x14 x15 x16 v123 r113.2))
 (tP x1 x2 x3 x4 x5 x10 x11 x12 x13 x14 x15 x16 x17 H) :=
 (pt rfl 0 Pl (by kernel_rfl))
theorem Jo : MR x1 x2 x3 x4 x5 x10 x11 x12 x13 x14 x15 x16 H =
 (ak .other .rem x16 (vi 4)).bind fun v124 =>
 MS x1 x2 x3 x4 x5 x10 x11 x12 x13 x14 x15 x16 v124 H :=
 (pt rfl 0 kg (bt rfl (fT [1, 1, 1, 1, 1, 0, 1, 4, 5, 1, 0, 4]) 1 mD (pt rfl 0 Pj (by kernel_rfl))))
theorem En : Cg x1 x10 x11 x13 x14 H = Jm x1 x10 x11 x13 x14 H :=
 (by kernel_rfl)
theorem z3 : yr x1 x2 x3 x4 x5 x10 x11 x12 x13 x14 x15 x16 H =
 (ak .other .lss x16 x3).bind fun v125 =>
 ax v125
 (MR x1 x2 x3 x4 x5 x10 x11 x12 x13 x14 x15 x16 H)
 (Cg x1 x10 x11 x13 x14 H) :=
 yx rfl qh (pt rfl 0 Pi (by kernel_rfl))
theorem Jn : MQ x1 x2 x3 x4 x5 x10 x11 x12 x13 x14 x15 x16 H =
 yr x1 x2 x3 x4 x5 x10 x11 x12 x13 x14 x15 x16 H :=
 (bt rfl (fT [1, 1, 1, 1, 1, 0, 1, 4]) 0 mC (li rfl (fT [1, 1, 1, 1, 1, 0, 1, 4, 5]) qh (by kernel_rfl)))
theorem PO : Uk x1 x2 x3 x4 x5 x10 x11 x12 x13 x14 x15 H =
 MQ x1 x2 x3 x4 x5 x10 x11 x12 x13 x14 x15 (vi 0) H :=
 (pt rfl 0 zK (pt rfl 0 Ph (by kernel_rfl)))
noncomputable def lTu : OV := aW PP GG FF (fT []) (ls [x0, x1, x2, x3, x4] 188) H gg bV gg
theorem Zl {r : Value × AH} (h : (
 aV (Value.cells x0).toList H fun v126 H127 =>
 aV [(.pointer none), (.pointer none), (.pointer none), (.pointer none)] H127 fun v128 H129 =>
 aV [(.pointer none), (.pointer none), (.pointer none), (.pointer none)] H129 fun v130 H131 =>
 aV [(vi 0), (vi 0), (vi 0), (vi 0)] H131 fun v132 H133 =>
 Uk x1 x2 x3 x4 v126 (vb false) (vb false) v128 v130 v132 (vi 0) H133) = some r) : FF M0 [x0, x1, x2, x3, x4] H = some r :=
 fo (t := lTu x0 x1 x2 x3 x4 H) Tryz.func33 (by kernel_rfl) (Eq.trans (pt rfl 4 SZ (by kernel_rfl)) h)
noncomputable def nV (p : List Nat) : Code := Code.sub (bX Tryz.f34) p
noncomputable def mE : KK := ge PP (Tryz.f34).results.toList
noncomputable def S9 : KK := CQ (nV [1, 1]) mE bV mE
noncomputable def rj : OV := S9 (ls [x0, x1, u, u, x4, x5] 50) H
noncomputable def IX : KK := CQ (nV [1, 1, 1]) mE bV mE
noncomputable def S7 : KK := gk 72057594037927887 IX
noncomputable def rk : OV := IX (ls [u, u, u, u, x4, x5] 50) H
noncomputable def Tb : KK := CQ (nV [1, 1, 0, 1]) S7 bV mE
noncomputable def rn : OV := Tb (ls [x0, x1, u, u, x4, x5, x6] 49) H
noncomputable def I0 : KX := BX 0 S7 bV
noncomputable def D8 : KX := uQ 72057594037927887 I0
noncomputable def IY : KK := CX (nV [1, 1, 0, 1, 4, 5]) D8 mE
noncomputable def S8 : KK := gk 72057594037927820 IY
noncomputable def jg : OV := IY (ls [x0, x1, u, u, x4, x5, x6] 49) H
noncomputable def Td : KK := CQ (nV [1, 1, 0, 1, 4, 5, 1]) S8 D8 mE
noncomputable def rq : OV := Td (ls [x0, x1, u, u, x4, x5, x6] 49) H
noncomputable def IZ : KK := CQ (nV [1, 1, 0, 1, 4, 5, 1, 1]) S8 D8 mE
noncomputable def IW : KK := gk 72057594037927820 IZ
noncomputable def rr : OV := IZ (ls [x0, x1, u, u, x4, x5, x6] 49) H
noncomputable def Th : KX := BX 1 IW D8
noncomputable def Ti : KX := uQ 72057594037927820 Th
noncomputable def Tf : KK := CQ (nV [1, 1, 0, 1, 4, 5, 1, 0, 4, 1, 1]) IW Ti mE
noncomputable def rt : OV := Tf (ls [x0, x1, u, u, x4, x5, x6, x7] 48) H
noncomputable def Mv : KK := CQ (nV [1, 1, 0, 1, 4, 5, 1, 0, 4, 1, 1, 1]) IW Ti mE
noncomputable def ik : OV := Mv (ls [x0, x1, u, u, x4, x5, x6, x7] 48) H
noncomputable def gm : OV := I0 0 (ls [u, u, u, u, x4, x5] 50) H
theorem je : au 72057594037927919 mE := rf
theorem Ta : au 72057594037927884 S9 := rc je aJ je
theorem zM : au 72057594037927887 IX := rc je aJ je
theorem Tc : au 72057594037927820 Tb := rc (cd zM) aJ je
theorem oT : ∀ i, au 72057594037927887 (I0 i) := rb (cd zM) aJ
theorem tx : au 72057594037927820 IY := rl (cx oT) je
theorem Te : au 72057594037927820 Td := rc (cd tx) (cx oT) je
theorem tz : au 72057594037927820 IZ := rc (cd tx) (cx oT) je
theorem zN : ∀ i, au 72057594037927820 (Th i) := rb (cd tz) (cx oT)
theorem Tg : au 72057594037927692 Tf := rc (cd tz) (cx zN) je
theorem Po : au 72057594037927692 Mv := rc (cd tz) (cx zN) je
theorem mP : rk x4 x5 H =
 some (x5, H) :=
 (by kernel_rfl)
theorem vq : rr x0 x1 x4 x5 x6 H =
 (ak .other .add x6 (vi 1)).bind fun v7 =>
 jg x0 x1 x4 x5 v7 H :=
 (by kernel_rfl)
theorem tM : ik x0 x1 x4 x5 x6 x7 H =
 st 1 [.f 3] x7 x6 H fun H11 =>
 (ak .other .rem x6 (vi 4)).bind fun v12 =>
 (ak .other .rem x6 (vi 4)).bind fun v13 =>
 ld [.i 1 v13] x5 H11 fun v14 =>
 (aB 4 x7 H11).bind fun v15 =>
 Af 1 4 [(vi 0), (vi 0), (vi 0), (vi 0)] [(0, v15)] H11 fun v16 H17 =>
 (dX 4 32 v14 v16 H17).bind fun r18 =>
 st 1 [.i 1 v12] x5 r18.1 r18.2 fun H19 =>
 rr x0 x1 x4 x5 x6 H19 :=
 (by kernel_rfl)
theorem vr : rt x0 x1 x4 x5 x6 x7 H =
 ld [.i 4 x6, .f 2] x0 H fun v20 =>
 (FF bd [v20, (vi 5)] H).bind fun r21 =>
 (ak .other .gtr r21.1 (vi 0)).bind fun v22 =>
 ax v22
 (ld [.i 4 x6, .f 2] x0 r21.2 fun v23 =>
 (FF bd [v23, (vi 9)] r21.2).bind fun r24 =>
 (ak .other .add (vi 1) r24.1).bind fun v25 =>
 st 1 [.f 2] x7 v25 r24.2 fun H26 =>
 ik x0 x1 x4 x5 x6 x7 H26)
 (ik x0 x1 x4 x5 x6 x7 r21.2) :=
 (pt rfl 0 Po (by kernel_rfl))
theorem vo : rq x0 x1 x4 x5 x6 H =
 ldN 4 [.i 4 x6] x0 H fun v27 =>
 (FF pg [v27] H).bind fun r28 =>
 aV [(vi 0), (vi 0), (vi 0), (vi 0)] r28.2 fun v29 H30 =>
 (dg 4 v29 r28.1 H30).bind fun H31 =>
 st 1 [.f 0] v29 (vi 3) H31 fun H32 =>
 rt x0 x1 x4 x5 x6 v29 H32 :=
 (pt rfl 0 tz (bt rfl (nV [1, 1, 0, 1, 4, 5, 1, 0, 4]) 1 zN (pt rfl 1 Tg (by kernel_rfl))))
theorem kU : gm x4 x5 H = rk x4 x5 H :=
 (by kernel_rfl)
theorem mQ : jg x0 x1 x4 x5 x6 H =
 fq x0 fun v33 =>
 (ak .other .lss x6 v33).bind fun v34 =>
 (gV v34 true x6).bind fun v35 =>
 (gV v34 true x1).bind fun v36 =>
 (gB v34 true (ak .other .lss v35 v36)).bind fun v37 =>
 (aQ v34 v37 (vb false)).bind fun v38 =>
 ax v38
 (rq x0 x1 x4 x5 x6 H)
 (gm x4 x5 H) :=
 yx rfl tx (pt rfl 0 Te (by kernel_rfl))
theorem vn : rn x0 x1 x4 x5 x6 H =
 jg x0 x1 x4 x5 x6 H :=
 (bt rfl (nV [1, 1, 0, 1, 4]) 0 oT (li rfl (nV [1, 1, 0, 1, 4, 5]) tx (by kernel_rfl)))
theorem vm : rj x0 x1 x4 x5 H =
 rn x0 x1 x4 x5 (vi 0) H :=
 (pt rfl 0 zM (pt rfl 0 Tc (by kernel_rfl)))
noncomputable def Jj : OV := aW PP GG FF (nV []) (ls [x0, x1] 54) H mE bV mE
theorem Bw {r : Value × AH} (h : (
 (jV [(.slice none 0 0)] 1 24 (vi 4) (vi 4) H).bind fun r39 =>
 rj x0 x1 (.slice none 0 0) r39.1 r39.2) = some r) : FF j2 [x0, x1] H = some r :=
 fo (t := Jj x0 x1 H) Tryz.func34 (by kernel_rfl) (Eq.trans (pt rfl 1 Ta (by kernel_rfl)) h)
theorem GS {r : Value × AH} (h : (
 (ak .other .quo x0 (vw 4294967296)).bind fun v0 =>
 (ak .other .rem x0 (vw 4294967296)).bind fun v1 =>
 (ak .other .eql v0 v1).bind fun v2 =>
 some (v2, H)) = some r) : FF se [x0] H = some r :=
 fo Tryz.func35 (by kernel_rfl) h
theorem rQ {r : Value × AH} (h : (
 ad [.n, .f 0] x0 fun v0 =>
 (am v0 H).bind fun v1 =>
 (FF aS [(vi 3), (vi 0)] H).bind fun r2 =>
 bw (am v0 r2.2) (am v0 H) <|
 (FF cg [v1, x1, r2.1] r2.2).bind fun r3 =>
 some (r3.1, r3.2)) = some r) : FF io [x0, x1] H = some r :=
 fo Tryz.func36 (by kernel_rfl) h
theorem qA {r : Value × AH} (h : (
 ad [.n, .f 0] x0 fun v0 =>
 (am v0 H).bind fun v1 =>
 ld [.n, .f 3] x0 H fun v2 =>
 (b6 v2 [x2]).bind fun c => (FF c.1 c.2 H).bind fun r3 =>
 bw (am v0 r3.2) (am v0 H) <|
 (FF kX [v1, x1, r3.1, (vw 0)] r3.2).bind fun r4 =>
 some (r4.1, r4.2)) = some r) : FF gJ [x0, x1, x2] H = some r :=
 fo Tryz.func38 (by kernel_rfl) h
theorem qC {r : Value × AH} (h : (
 ad [.n, .f 0] x0 fun v0 =>
 (am v0 H).bind fun v1 =>
 ld [.n, .f 4] x0 H fun v2 =>
 (b6 v2 [x2]).bind fun c => (FF c.1 c.2 H).bind fun r3 =>
 bw (am v0 r3.2) (am v0 H) <|
 (FF ir [v1, x1, r3.1] r3.2).bind fun r4 =>
 ld [.n, .f 2] x0 r4.2 fun v5 =>
 (b7 .int (vw 0) v5 x2 false r4.2).bind fun v6 =>
 some (v6, r4.2)) = some r) : FF gL [x0, x1, x2] H = some r :=
 fo Tryz.func39 (by kernel_rfl) h
end
def oB (LL : List (lW × List Cl)) (n : Nat) : Prop := ∀ k q, LL[k]? = some q → 4 * q.2.length ≤ n + 3 - k ∧ ∀ c ∈ q.2, c.op = 3
theorem oB.mono {LL : List (lW × List Cl)} {n m : Nat} (h : oB LL n) (hn : n ≤ m) : oB LL m := fun k q hq => by
 have := h k q hq;exact ⟨by omega, this.2⟩
theorem oB.nil : oB [((none, 0, 0), []), ((none, 0, 0), []), ((none, 0, 0), []), ((none, 0, 0), [])] 0 := fun k q hq => by
 have hm := List.mem_of_getElem? hq;simp only [Jl, List.not_mem_nil, or_false] at hm
 rcases hm with rfl | rfl | rfl | rfl <;> exact ⟨Nat.zero_le _, fun c hc => by cases hc⟩
theorem oB.snoc {LL : List (lW × List Cl)} {i : Nat} (h : oB LL i) (hw : i % 4 < LL.length) (s : lW) (c : Cl) (hc : c.op = 3) : oB (LL.set (i % 4) (s, LL[i % 4].2 ++ [c])) (i + 1) := fun k q hq => by
 by_cases e : k = i % 4
 ·subst e
  rw [List.getElem?_set_self hw] at hq;have hq := fg hq;subst hq;obtain ⟨h1, h2⟩ := h _ _ (br hw);refine ⟨?_, fun c' hc' => ?_⟩
  ·show 4 * (LL[i % 4].2 ++ [c]).length ≤ _
   rw [nC, List.length_singleton];omega
  ·rcases List.mem_append.1 hc' with hc' | hc'
   ·exact h2 c' hc'
   ·rw [List.mem_singleton.1 hc']; exact hc
 ·rw [List.getElem?_set_ne (fun h => e h.symm)] at hq
  obtain ⟨h1, h2⟩ := h k q hq;exact ⟨by omega, h2⟩
theorem Zp {P : SP} {H : AH} {s : Value} {L : List Cl} [hR : Rd P s 4 Cl.cells L] (most : Nat) (hm : most < 1000) {k : Value × AH → OV} {Q : Value → AH → Prop} (h : ac P H)
 (hk : ∀ (b : Nat) (LL : List (lW × List Cl)) (H' : AH), LL.length = 4 → oB LL most → ac (ts 1 jt (vs b 4 1) (bK LL) * (dz LL * P)) H' → wp (k (vs b 4 1, H')) Q) :
 wp ((FF j2 [s, vi (most : Int)] H).bind k) Q := by
 have law : Sp j2 [s, vi (most : Int)] P (fun g : Nat × List (lW × List Cl) => vs g.1 4 1) (fun g => pu (g.2.length = 4 ∧ oB g.2 most) * (ts 1 jt (vs g.1 4 1) (bK g.2) * (dz g.2 * P))) := by
  refine aY (Bw _ _) fun R H h => ?_;refine Bb (n := 4) (enc := jt) ((none, 0, 0) : lW) h rfl (by unfold room; omega) (by omega) fun b H1 h1 => ?_;refine aj (vm ..) ?_;refine aj (vn ..) ?_;have loop : ∀ (d i : Nat) (LL : List (lW × List Cl)) (H : AH), most - i = d → i ≤ most → LL.length = 4 → oB LL i → ac (ts 1 jt (vs b 4 1) (bK LL) * (dz LL * (P * R))) H →
   wp (jg s (vi (most : Int)) (.slice none 0 0) (vs b 4 1) (vi (i : Int)) H) fun v' H' => ∃ g : Nat × List (lW × List Cl), v' = vs g.1 4 1 ∧ ac (pu (g.2.length = 4 ∧ oB g.2 most) * (ts 1 jt (vs g.1 4 1) (bK g.2) * (dz g.2 * P)) * R) H' := by
   intro d
   induction d with
   | zero =>
    intro i LL H hd hi h4 hq hh
    have out : wp (gm (.slice none 0 0) (vs b 4 1) H) fun v' H' => ∃ g : Nat × List (lW × List Cl), v' = vs g.1 4 1 ∧ ac (pu (g.2.length = 4 ∧ oB g.2 most) * (ts 1 jt (vs g.1 4 1) (bK g.2) * (dz g.2 * P)) * R) H' := by
     refine aj (kU ..) ?_;refine aj (mP ..) ?_;refine ap ⟨(b, LL), rfl, ?_⟩;rw [ar, ac.pu];exact ⟨⟨h4, hq.mono hi⟩, hh.to⟩
    refine aj (mQ ..) ?_;refine ja (s := s) (l := L) hh ?_
    by_cases hl : i < L.length
    ·refine aa (cJ (by omega)) ?_
     refine gs ?_;refine aa (b4 (by omega)) ?_;refine gs ?_;exact out
    ·refine aa (b4 (by omega)) ?_
     refine gs ?_;exact out
   | succ d ih =>
    intro i LL H hd hi h4 hq hh
    have out : wp (gm (.slice none 0 0) (vs b 4 1) H) fun v' H' => ∃ g : Nat × List (lW × List Cl), v' = vs g.1 4 1 ∧ ac (pu (g.2.length = 4 ∧ oB g.2 most) * (ts 1 jt (vs g.1 4 1) (bK g.2) * (dz g.2 * P)) * R) H' := by
     refine aj (kU ..) ?_;refine aj (mP ..) ?_;refine ap ⟨(b, LL), rfl, ?_⟩;rw [ar, ac.pu];exact ⟨⟨h4, hq.mono hi⟩, hh.to⟩
    refine aj (mQ ..) ?_;refine ja (s := s) (l := L) hh ?_
    by_cases hl : i < L.length
    case neg =>
     refine aa (b4 (by omega)) ?_;refine gs ?_;exact out
    refine aa (cJ (by omega)) ?_;refine gs ?_;refine aa (cJ (by omega)) ?_;refine gs ?_;refine aj (vo ..) ?_;refine KJ (s := s) (l := L) hh hl ?_;refine ag hh (Qd L[i]) fun y H2 h2 => ?_;refine bj h2 fun cb H3 h3 => ?_;refine f7 h3 rfl rfl fun H4 h4' => ?_;refine bk h4' aD rfl rfl fun H5 h5 => ?_;refine aj (vr ..) ?_;refine Fm (s := s) (l := L) (v := vi L[i].a) h5 hl (by omega) rfl ?_;refine KH h5 (by omega) (by omega) fun H6 h6 => ?_;have tail : ∀ (z : Cl) (H : AH), z.op = 3 → ac (blk cb (.cells false (Cl.cells z)) * (ts 1 jt (vs b 4 1) (bK LL) * (dz LL * (P * R)))) H →
     wp (ik s (vi (most : Int)) (.slice none 0 0) (vs b 4 1) (vi (i : Int)) (vp cb) H) fun v' H' => ∃ g : Nat × List (lW × List Cl), v' = vs g.1 4 1 ∧ ac (pu (g.2.length = 4 ∧ oB g.2 most) * (ts 1 jt (vs g.1 4 1) (bK g.2) * (dz g.2 * P)) * R) H' := by
     intro z H hz3 hz
     have hw4 : i % 4 < LL.length := by omega
     have hhl : (bK LL).length = LL.length := by simp [bK]
     refine aj (tM ..) ?_;refine bk hz aD rfl rfl fun H7 h7 => ?_;refine aa (i8 (by omega)) ?_;refine aa (i8 (by omega)) ?_;rw [show (i : Int).tmod 4 = ((i % 4 : Nat) : Int) from by rw [Xv (by omega)]; omega];refine V5 (s := vs b 4 1) (l := bK LL) (i := i % 4) (v := HF LL[i % 4].1) h7 (by omega) (by simp [bK]) ?_;refine aU h7 ?_;refine KG h7 fun rb H8 h8 => ?_;obtain ⟨Rr, e1, e2⟩ := tQ hw4;have hql := (hq (i % 4) _ (br hw4)).1;rw [e1] at h8;refine gX (s := HF LL[i % 4].1) (l := LL[i % 4].2) (⟨z.op, z.flow, z.a, (i : Int)⟩ : Cl) h8 rfl ?_ (by omega) fun a c H9 h9 => ?_
     ·unfold room; omega
     refine CT (s := vs b 4 1) (l := bK LL) (i := i % 4) ((a, LL[i % 4].2.length + 1, c) : lW) h9 (by omega) (.inl ⟨rfl, rfl⟩) rfl (by omega) rfl rfl fun H10 h10 => ?_;refine aj (vq ..) ?_;refine aa (aO (by omega) (by omega)) ?_;rw [show ((i : Nat) : Int) + 1 = ((i + 1 : Nat) : Int) from by omega]
     have eh : bK (LL.set (i % 4) ((a, LL[i % 4].2.length + 1, c), LL[i % 4].2 ++ [⟨z.op, z.flow, z.a, (i : Int)⟩])) = (bK LL).set (i % 4) (a, LL[i % 4].2.length + 1, c) := by
      simp [bK, List.map_set]
     refine ih (i + 1) (LL.set (i % 4) ((a, LL[i % 4].2.length + 1, c), LL[i % 4].2 ++ [⟨z.op, z.flow, z.a, (i : Int)⟩])) H10 (by omega) (by omega) (by rw [vx]; exact h4) (hq.snoc hw4 _ _ hz3) ?_;rw [eh, e2];exact h10.to
    by_cases hg : 0 < dM L[i].a 5
    ·refine aa (wH hg) ?_
     refine gs ?_;refine Fm (s := s) (l := L) (v := vi L[i].a) h6 hl (by omega) rfl ?_;refine KH h6 (by omega) (by omega) fun H7 h7 => ?_;have m9 := eZ (v := L[i].a) (n := 9) (by omega);refine aa (aO (by omega) (by omega)) ?_;refine bk h7 aD rfl rfl fun H8 h8 => ?_;exact tail ⟨3, y.flow, 1 + dM L[i].a 9, y.b⟩ H8 rfl h8.to
    ·refine aa (jQ hg) ?_
     refine gs ?_;exact tail ⟨3, y.flow, y.a, y.b⟩ H6 rfl h6.to
  refine loop most 0 [((none, 0, 0), []), ((none, 0, 0), []), ((none, 0, 0), []), ((none, 0, 0), [])] H1 rfl (Nat.zero_le _) rfl oB.nil ?_;have z := d6 4 Cl.cells (d6 4 Cl.cells (d6 4 Cl.cells (d6 4 Cl.cells h1)));show ac (ts 1 jt (vs b 4 1) (List.replicate 4 ((none, 0, 0) : lW)) * ((ts 4 Cl.cells (.slice none 0 0) [] * (ts 4 Cl.cells (.slice none 0 0) [] * (ts 4 Cl.cells (.slice none 0 0) [] * (ts 4 Cl.cells (.slice none 0 0) [] * emp)))) * (P * R))) H1;exact z.to
 obtain ⟨⟨b, LL⟩, H', e, h'⟩ := law emp H (by rw [eD]; exact h);rw [e];rw [eD, ac.pu] at h';exact hk b LL H' h'.1.1 h'.1.2 h'.2
def ZY (p x : Nat) (rp : List Nat) : Wk → SP
 | none => emp
 | some q => eT q.1 p rp q.2.2 * xT q.2.1 x q.2.2
def Rf (p x : Nat) (rp : List Nat) : List Wk → SP
 | [] => emp
 | q :: l => ZY p x rp q * Rf p x rp l
theorem CU (p x : Nat) (rp : List Nat) : ∀ {ws : List Wk} {i : Nat} (h : i < ws.length), ∃ R, Rf p x rp ws = ZY p x rp ws[i] * R ∧ ∀ q, Rf p x rp (ws.set i q) = ZY p x rp q * R := by
 intro ws
 induction ws with
 | nil => intro i h; simp at h
 | cons q ws ih =>
  intro i h
  cases i with
  | zero => exact ⟨Rf p x rp ws, rfl, fun q => rfl⟩
  | succ i =>
   obtain ⟨R, e1, e2⟩ := ih (i := i) (by simpa using h);refine ⟨ZY p x rp q * R, ?_, fun q' => ?_⟩
   ·show ZY p x rp q * Rf p x rp ws = _
    rw [e1, bo]; rfl
   ·show ZY p x rp q * Rf p x rp (ws.set i q') = _
    rw [e2, bo]
def Z0 (σ : az) (q : Wk) (ev xv : Value) : Prop := match q with
 | none => xv = .pointer none
 | some q => ev = vp q.1 ∧ xv = vp q.2.1 ∧ eG σ q.2.2
structure Wt (σ : az) (ws : List Wk) (ev xv : List Value) (ats : List Nat) : Prop where
 l : ws.length = 4
 el : ev.length = 4
 xl : xv.length = 4
 al : ats.length = 4
 r : ∀ w (h : w < 4), Z0 σ (ws[w]'(by omega)) (ev[w]'(by omega)) (xv[w]'(by omega))
theorem Z0.mono {σ σ' : az} {q : Wk} {ev xv : Value} (h : Z0 σ q ev xv) (hc : σ'.c = σ.c) (ho : σ'.obs.length = σ.obs.length) : Z0 σ' q ev xv := by
 cases q with
 | none => exact h
 | some q => exact ⟨h.1, h.2.1, h.2.2.mono hc ho⟩
theorem Wt.mono {σ σ' : az} {ws : List Wk} {ev xv : List Value} {ats : List Nat} (h : Wt σ ws ev xv ats) (hc : σ'.c = σ.c) (ho : σ'.obs.length = σ.obs.length) : Wt σ' ws ev xv ats :=
 ⟨h.l, h.el, h.xl, h.al, fun w hw => (h.r w hw).mono hc ho⟩
theorem Wt.set {σ : az} {ws : List Wk} {ev xv : List Value} {ats : List Nat} (h : Wt σ ws ev xv ats) {w : Nat} (hw : w < 4) {q : Wk} {e2 x2 : Value} (a : Nat) (hq : Z0 σ q e2 x2) : Wt σ (ws.set w q) (ev.set w e2) (xv.set w x2) (ats.set w a) := by
 refine ⟨by simp [h.l], by simp [h.el], by simp [h.xl], by simp [h.al], fun w' hw' => ?_⟩;rw [List.getElem_set, List.getElem_set, List.getElem_set]
 by_cases e : w = w'
 ·rw [if_pos e, if_pos e, if_pos e]; exact hq
 ·rw [if_neg e, if_neg e, if_neg e]; exact h.r w' hw'
section
variable (p x pb eb xb ab : Nat) (rp : List Nat) (lb : Nat) (LL : List (lW × List Cl)) (pv : Value) (picks : List Int) (blows : Bool) (most : Nat)
abbrev Ws (σ : az) (ws : List Wk) (ev xv : List Value) (ats : List Nat) (R : SP) : SP :=
 blk pb (.cells false [vp p, vp x]) * (blk eb (.cells false ev) * (blk xb (.cells false xv) * (blk ab (.cells false (ats.map fun (n : Nat) => vi (n : Int))) * (bT p rp σ * (bD x σ * (Rf p x rp ws * (ts 1 jt (vs lb 4 1) (bK LL) * (dz LL * R))))))))
variable (J : Nat → Nat → az → List Wk → List Nat → Prop)
def Wx (ws : List Wk) (ats : List Nat) : Prop := ∀ w, w < 4 → ws[w]? = some none ∧ ∀ q, LL[w]? = some q → ∀ a, ats[w]? = some a → q.2.length ≤ a
def Ro (R : SP) (v' : Value) (H' : AH) : Prop := ∃ (b : Bool) (now' : Nat) (σ' : az) (ws' : List Wk) (ats' : List Nat), v' = .tuple #[vb b, vb true] ∧ SI σ' 60000 ∧ J most now' σ' ws' ats' ∧ (b = true ↔ Wx LL ws' ats') ∧ ac (bT p rp σ' * (bD x σ' * R)) H'
theorem KD (hL : LL.length = 4) {R : SP} {σ : az} {ws : List Wk} {ev xv : List Value} {ats : List Nat} {H : AH} {now : Nat} (S : SI σ 60000) (hJ : J most now σ ws ats) (W : Wt σ ws ev xv ats)
 (h : ac (Ws p x pb eb xb ab rp lb LL σ ws ev xv ats R) H) (x10 x11 : Value) :
 wp (Jm (vs lb 4 1) x10 x11 (vp xb) (vp ab) H) (Ro p x rp LL most J R) := by
 have hhl : (bK LL).length = 4 := by simp [bK, hL]
 have fin : ∀ b : Bool, (b = true ↔ Wx LL ws ats) → Ro p x rp LL most J R (.tuple #[vb b, vb true]) H := fun b hb => ⟨b, now, σ, ws, ats, rfl, S, hJ, hb, h.to⟩;refine aj (PQ ..) ?_;refine aj (PS ..) ?_
 have loop : ∀ (d w : Nat), w + d = 4 → (∀ k, k < w → ws[k]? = some none ∧ ∀ q, LL[k]? = some q → ∀ a, ats[k]? = some a → q.2.length ≤ a) → wp (Ep (vs lb 4 1) x10 x11 (vp xb) (vp ab) (vi (w : Int)) H) (Ro p x rp LL most J R) := by
  intro d
  induction d with
  | zero =>
   intro w hw hall;refine aj (Ch ..) ?_;refine aa (b4 (by omega)) ?_;refine gs ?_;refine aj (Gx ..) ?_;refine aj (PR ..) ?_;exact ap (fin true ⟨fun _ k hk => hall k (by omega), fun _ => rfl⟩)
  | succ d ih =>
   intro w hw hall
   have hw4 : w < 4 := by omega
   have hwL : w < LL.length := by omega
   refine aj (Ch ..) ?_;refine aa (cJ (by omega)) ?_;refine gs ?_;refine gD (s := vs lb 4 1) (l := bK LL) h ?_;refine gs ?_;refine aa (cJ (by omega)) ?_;refine gs ?_;refine aj (PT ..) ?_;refine na (v := xv[w]'(by rw [W.xl]; exact hw4)) h hw4 (br _) ?_;have wr := W.r w hw4
   have next : (ws[w]? = some none ∧ ∀ q, LL[w]? = some q → ∀ a, ats[w]? = some a → q.2.length ≤ a) → wp (Jt (vs lb 4 1) x10 x11 (vp xb) (vp ab) (vi (w : Int)) H) (Ro p x rp LL most J R) := by
    intro hthis;refine aj (PU ..) ?_;refine aa (aO (by omega) (by omega)) ?_;refine ih (w + 1) (by omega) fun k hk => ?_
    by_cases e : k = w
    ·subst e; exact hthis
    ·exact hall k (by omega)
   have hwl : w < ws.length := by rw [W.l]; exact hw4
   have hal : w < ats.length := by rw [W.al]; exact hw4
   cases hq : ws[w]'(by rw [W.l]; exact hw4) with
   | some q =>
    rw [hq] at wr;rw [show xv[w]'(by rw [W.xl]; exact hw4) = vp q.2.1 from wr.2.1];refine aa (XF _) ?_;refine gs ?_
    exact ap (fin false ⟨(fun h => by cases h), fun h => by
     have := (h w hw4).1;rw [br hwl, hq] at this
     cases this⟩)
   | none =>
    rw [hq] at wr;rw [show xv[w]'(by rw [W.xl]; exact hw4) = .pointer none from wr];refine aa (UH) ?_;refine gs ?_;refine na (v := vi (ats[w]'(by rw [W.al]; exact hw4) : Nat)) h hw4 (by rw [vt, br (by rw [W.al]; exact hw4)]; rfl) ?_;refine gs ?_;refine i9 (s := vs lb 4 1) (l := bK LL) (i := w) (v := HF (LL[w]'hwL).1) h (by omega) (by simp [bK]) ?_;refine gs ?_
    haveI := Ci (LL := LL) (i := w) hwL
    refine gD (s := HF (LL[w]'hwL).1) (l := (LL[w]'hwL).2) h ?_;refine gs ?_
    by_cases hlt : ats[w]'(by rw [W.al]; exact hw4) < (LL[w]'hwL).2.length
    ·refine aa (cJ (by omega)) ?_
     refine gs ?_
     exact ap (fin false ⟨(fun h => by cases h), fun h => by
      have := (h w hw4).2 _ (br hwL) _ (br hal)
      omega⟩)
    ·refine aa (b4 (by omega)) ?_
     refine gs ?_;refine next ⟨by rw [br hwl, hq], fun q hq2 a ha2 => ?_⟩;rw [br hwL] at hq2;rw [br hal] at ha2;cases hq2;cases ha2;omega
 exact loop 4 0 rfl fun k hk => by omega
end
section
variable (p x pb eb xb ab : Nat) (rp : List Nat) (lb : Nat) (LL : List (lW × List Cl)) (pv : Value) (picks : List Int) (most : Nat) (J : Nat → Nat → az → List Wk → List Nat → Prop) (x10 x11 : Value) (Z : SP)
variable (hL : LL.length = 4) (hQ : ∀ q ∈ LL, q.2.length ≤ 1000) (hm : most ≤ 4000) [hP : Rd Z pv 1 dC picks]
variable (hJs : ∀ (i : Nat) (σ : az) (ws : List Wk) (ats : List Nat) (w : Nat) (q : Nat × Nat × Tk) (now K : Nat), i < most → (picks.length ≤ i → w = i % 4) → K < 60000 → SI σ K → ws.length = 4 → ats.length = 4 → ws[w]? = some (some q) → eG σ q.2.2 → J i now σ ws ats →
 J (i + 1) (now + 1) (ah σ q.2.2 now).1 (ws.set w (if (ah σ q.2.2 now).2.2 = true then none else some (q.1, q.2.1, (ah σ q.2.2 now).2.1))) ats)
variable (hJb : ∀ (i now : Nat) (σ : az) (ws : List Wk) (ats : List Nat) (w e xk : Nat) (L : lW × List Cl) (a : Nat) (hLw : LL[w]? = some L) (haw : ats[w]? = some a) (hal : a < L.2.length), bM σ.c = true → ws.length = 4 → ats.length = 4 → ws[w]? = some none → J i now σ ws ats → J i now (σ.begin w a) (ws.set w (some (e, xk, Tk.new σ.c w L.2[a]))) (ats.set w (a + 1)))
variable (hJn : ∀ (i now : Nat) (σ : az) (ws : List Wk) (ats : List Nat) (w : Nat) (L : lW × List Cl) (a : Nat), (picks.length ≤ i → w = i % 4) → LL[w]? = some L → ats[w]? = some a → L.2.length ≤ a → ws.length = 4 → ws[w]? = some none → J i now σ ws ats → J (i + 1) now σ ws ats)
include hL hm hP hJs hJb hJn
theorem Hn : ∀ (d i K now : Nat) (σ : az) (ws : List Wk) (ev xv : List Value) (ats : List Nat) (H : AH), i + d = most → SI σ K → K ≤ 16 + 12 * i → now ≤ i → Wt σ ws ev xv ats → (∀ a ∈ ats, a ≤ i) → J i now σ ws ats →
 ac (Ws p x pb eb xb ab rp lb LL σ ws ev xv ats Z) H →
 wp (yr (vs lb 4 1) pv (vi (most : Int)) (vb false) (vp pb) x10 x11 (vp eb) (vp xb) (vp ab) (vi (now : Int)) (vi (i : Int)) H) (Ro p x rp LL most J Z) := by
 have hhl : (bK LL).length = 4 := by simp [bK, hL]
 intro d
 induction d with
 | zero =>
  intro i K now σ ws ev xv ats H hi S hK hnow W ha hJ h;refine aj (z3 ..) ?_;refine aa (b4 (by omega)) ?_;refine gs ?_;refine aj (En ..) ?_;exact KD p x pb eb xb ab rp lb LL most J hL (S.mono (by omega)) (by rw [show most = i from by omega]; exact hJ) W h x10 x11
 | succ d ih =>
  intro i K now σ ws ev xv ats H hi S hK hnow W ha hJ h;refine aj (z3 ..) ?_;refine aa (cJ (by omega)) ?_;refine gs ?_;refine aj (Jo ..) ?_;refine aa (i8 (by omega)) ?_
  -- what is next, whatever was done
  have next : ∀ (K' now' : Nat) (σ' : az) (ws' : List Wk) (ev' xv' : List Value) (ats' : List Nat) (H' : AH), SI σ' K' → K' ≤ 16 + 12 * (i + 1) → now' ≤ i + 1 → Wt σ' ws' ev' xv' ats' → (∀ a ∈ ats', a ≤ i + 1) → J (i + 1) now' σ' ws' ats' →
   ac (Ws p x pb eb xb ab rp lb LL σ' ws' ev' xv' ats' Z) H' →
   wp (tO (vs lb 4 1) pv (vi (most : Int)) (vb false) (vp pb) x10 x11 (vp eb) (vp xb) (vp ab) (vi (now' : Int)) (vi (i : Int)) H') (Ro p x rp LL most J Z) := by
   intro K' now' σ' ws' ev' xv' ats' H' S' hK' hnow' W' ha' hJ' h';refine aj (Jp ..) ?_;refine aa (aO (by omega) (by omega)) ?_;rw [show ((i : Nat) : Int) + 1 = ((i + 1 : Nat) : Int) from by omega];exact ih (i + 1) K' now' σ' ws' ev' xv' ats' H' (by omega) S' hK' hnow' W' ha' hJ' h'
  have skip : ∀ (H' : AH), J (i + 1) now σ ws ats → ac (Ws p x pb eb xb ab rp lb LL σ ws ev xv ats Z) H' → wp (qj (vs lb 4 1) pv (vi (most : Int)) (vb false) (vp pb) x10 x11 (vp eb) (vp xb) (vp ab) (vi (now : Int)) (vi (i : Int)) H') (Ro p x rp LL most J Z) := by
   intro H' hJ' h';refine aj (Eo ..) ?_;exact next K now σ ws ev xv ats H' S (by omega) (by omega) W (fun a h2 => by have := ha a h2; omega) hJ' h'
  -- a step of one that is under way
  have step : ∀ (w : Nat) (hw : w < 4) (hpw : picks.length ≤ i → w = i % 4) (e xk : Nat) (t : Tk) (K1 : Nat) (σ1 : az) (ws1 : List Wk) (ev1 xv1 : List Value) (ats1 : List Nat) (H1 : AH), SI σ1 K1 → K1 ≤ 16 + 12 * i + 1 → J i now σ1 ws1 ats1 → (W1 : Wt σ1 ws1 ev1 xv1 ats1) → (∀ a ∈ ats1, a ≤ i + 1) →
   ws1[w]'(by rw [W1.l]; exact hw) = some (e, xk, t) → ac (Ws p x pb eb xb ab rp lb LL σ1 ws1 ev1 xv1 ats1 Z) H1 →
   wp (yu (vs lb 4 1) pv (vi (most : Int)) (vb false) (vp pb) x10 x11 (vp eb) (vp xb) (vp ab) (vi (now : Int)) (vi (i : Int)) (vi (w : Int)) H1) (Ro p x rp LL most J Z) := by
   intro w hw hpw e xk t K1 σ1 ws1 ev1 xv1 ats1 H1 S1 hK1 hJ1 W1 ha1 hwk h1
   have hwl : w < ws1.length := by rw [W1.l]; exact hw
   have wr := W1.r w hw;rw [hwk] at wr;obtain ⟨we0, wx0, wt0⟩ := wr;have we : ev1[w]'(by rw [W1.el]; exact hw) = vp e := we0;have wx : xv1[w]'(by rw [W1.xl]; exact hw) = vp xk := wx0;have wt : eG σ1 t := wt0;obtain ⟨Rw, es1, es2⟩ := CU p x rp hwl;rw [hwk] at es1;have es1' : Rf p x rp ws1 = eT e p rp t * xT xk x t * Rw := es1;have K2 := QN (now : Int) (by omega) S1 wt;have hJ2 := hJs i σ1 ws1 ats1 w (e, xk, t) now K1 (by omega) hpw (by omega) S1 W1.l W1.al (by rw [br hwl, hwk]) wt hJ1;dsimp only at hJ2;refine aj (Js ..) ?_;refine na (v := vp e) h1 hw (by rw [br (by rw [W1.el]; exact hw), we]) ?_
   have h2 : ac (eP e p rp σ1 t * (blk pb (.cells false [vp p, vp x]) * (blk eb (.cells false ev1) * (blk xb (.cells false xv1) * (blk ab (.cells false (ats1.map fun (n : Nat) => vi (n : Int))) * (xT xk x t * (bD x σ1 * (Rw * (ts 1 jt (vs lb 4 1) (bK LL) * (dz LL * Z)))))))))) H1 := by
    rw [R4, ar];unfold Ws at h1;rw [es1'] at h1;exact h1.to
   refine ag h2 (R7 e p rp σ1 t now (S1.ok (by omega)) wt) fun _ H2 h3 => ?_;refine aa (v := .agg (m0 (if (ah σ1 t now).2.2 = true then (ah σ1 t now).2.1.code else 0)).toArray) rfl ?_;refine aa (v := vb (ah σ1 t now).2.2) rfl ?_;refine bj h3 fun qb H3 h4 => ?_;refine f7 h4 rfl rfl fun H4 h5 => ?_;refine na (v := vp xk) h5 hw (by rw [br (by rw [W1.xl]; exact hw), wx]) ?_
   have h6 : ac (xP xk x σ1 t * (eQ e p rp (ah σ1 t now) * (blk qb (.cells false (m0 (if (ah σ1 t now).2.2 = true then (ah σ1 t now).2.1.code else 0))) * (blk pb (.cells false [vp p, vp x]) * (blk eb (.cells false ev1) * (blk xb (.cells false xv1) * (blk ab (.cells false (ats1.map fun (n : Nat) => vi (n : Int))) * (Rw * (ts 1 jt (vs lb 4 1) (bK LL) * (dz LL * Z)))))))))) H4 := by
    rw [abH, ar]; exact h5.to
   refine ag h6 (Q7 xk x σ1 t now (S1.ok (by omega)) wt) fun _ H5 h7 => ?_;refine aa (UF _) ?_;rw [abI, aaE] at h7;refine cL ?_;refine aU h7 ?_;refine gs ?_;refine na (v := vp xk) h7 hw (by rw [br (by rw [W1.xl]; exact hw), wx]) ?_;refine gs ?_;refine ag h7 (VL x xk (ah σ1 t now)) fun _ H6 h8 => ?_;refine dB h8 h7 (by rfl) ?_;refine lV ?_;refine ag h8 (Uf _) fun _ H7 h9 => ?_;refine cL ?_;refine aa nN ?_;rw [Bool.not_true];refine aa (nH _ _) ?_;refine ZO (p := p) (x := x) (pb := pb) (rp := rp) (σ := (ah σ1 t now).1) h9 fun H8 hA => ?_;refine gs ?_;refine aa (aO (by omega) (by omega)) ?_;rw [show ((now : Nat) : Int) + 1 = ((now + 1 : Nat) : Int) from by omega];have SI2 : SI (ah σ1 t now).1 (K1 + 3) := K2.si
   have hel : w < ev1.length := by rw [W1.el]; exact hw
   have hxl : w < xv1.length := by rw [W1.xl]; exact hw
   have hal : w < ats1.length := by rw [W1.al]; exact hw
   cases hd : (ah σ1 t now).2.2
   ·rw [aaF hd, abJ hd] at hA
    refine gs ?_;have W2 := (W1.mono K2.c K2.obs).set hw (q := some (e, xk, (ah σ1 t now).2.1)) (e2 := ev1[w]) (x2 := xv1[w]) ats1[w] ⟨we, wx, K2.ok hd⟩;rw [pH hel, pH hxl, pH hal] at W2;rw [hd, if_neg (by simp)] at hJ2;refine next (K1 + 3) (now + 1) _ _ ev1 xv1 ats1 H8 SI2 (by omega) (by omega) W2 ha1 hJ2 ?_;have e3 := es2 (some (e, xk, (ah σ1 t now).2.1));have e3' : Rf p x rp (ws1.set w (some (e, xk, (ah σ1 t now).2.1))) = eT e p rp (ah σ1 t now).2.1 * xT xk x (ah σ1 t now).2.1 * Rw := e3;unfold Ws;rw [e3'];exact hA.to
   ·refine gs ?_
    refine NK (v := .pointer none) (w := w) hA hw W1.xl rfl fun H9 hB => ?_;have W2 := (W1.mono K2.c K2.obs).set hw (q := none) (e2 := ev1[w]) (x2 := .pointer none) ats1[w] rfl;rw [pH hel, pH hal] at W2;rw [hd, if_pos rfl] at hJ2;refine next (K1 + 3) (now + 1) _ _ ev1 _ ats1 H9 SI2 (by omega) (by omega) W2 ha1 hJ2 ?_;have e3 := es2 none;have e3' : Rf p x rp (ws1.set w none) = emp * Rw := e3;unfold Ws;rw [e3', jd];exact hB.to
  -- one is picked
  have pick : ∀ (w : Nat) (hw : w < 4) (hpw : picks.length ≤ i → w = i % 4) (H' : AH), ac (Ws p x pb eb xb ab rp lb LL σ ws ev xv ats Z) H' →
   wp (tP (vs lb 4 1) pv (vi (most : Int)) (vb false) (vp pb) x10 x11 (vp eb) (vp xb) (vp ab) (vi (now : Int)) (vi (i : Int)) (vi (w : Int)) H') (Ro p x rp LL most J Z) := by
   intro w hw hpw H' h'
   have hwL : w < LL.length := by omega
   have hwl : w < ws.length := by rw [W.l]; exact hw
   have hel : w < ev.length := by rw [W.el]; exact hw
   have hxl : w < xv.length := by rw [W.xl]; exact hw
   have hal : w < ats.length := by rw [W.al]; exact hw
   have wr := W.r w hw;refine aj (Jr ..) ?_;refine na (v := xv[w]) h' hw (br _) ?_
   cases hq : ws[w] with
   | some q =>
    rw [hq] at wr;rw [show xv[w] = vp q.2.1 from wr.2.1];refine aa (mi _) ?_;refine gs ?_;refine aj (z4 ..) ?_;refine na (v := vp q.2.1) h' hw (by rw [br hxl, show xv[w] = vp q.2.1 from wr.2.1]) ?_;refine aa (mi _) ?_;refine gs ?_;exact step w hw hpw q.1 q.2.1 q.2.2 K σ ws ev xv ats H' S (by omega) hJ W (fun a h2 => by have := ha a h2; omega) hq h'
   | none =>
    rw [hq] at wr;rw [show xv[w] = .pointer none from wr];refine aa (Nd) ?_;refine gs ?_;refine gD (s := vs lb 4 1) (l := bK LL) h' ?_;refine gs ?_;refine aa (nW (by omega)) ?_;refine gs ?_
    have hav : (ats.map fun (n : Nat) => vi (n : Int))[w]? = some (vi (ats[w] : Nat)) := by rw [vt, br hal]; rfl
    refine na (v := vi (ats[w] : Nat)) h' hw hav ?_;refine gs ?_;refine i9 (s := vs lb 4 1) (l := bK LL) (i := w) (v := HF (LL[w]'hwL).1) h' (by omega) (by simp [bK]) ?_;refine gs ?_
    haveI := Ci (LL := LL) (i := w) hwL
    refine gD (s := HF (LL[w]'hwL).1) (l := (LL[w]'hwL).2) h' ?_;refine gs ?_
    by_cases hge : (LL[w]'hwL).2.length ≤ ats[w]
    ·refine aa (wG (by omega)) ?_
     refine gs ?_;exact skip H' (hJn i now σ ws ats w (LL[w]'hwL) ats[w] hpw (br hwL) (br hal) hge W.l (by rw [br hwl, hq]) hJ) h'
    ·refine aa (nW (by omega)) ?_
     refine gs ?_
     have hat : ats[w] < (LL[w]'hwL).2.length := by omega
     refine aj (z4 ..) ?_;refine na (v := .pointer none) h' hw (by rw [br hxl, show xv[w] = .pointer none from wr]) ?_;refine aa (Nd) ?_;refine gs ?_;refine i9 (s := vs lb 4 1) (l := bK LL) (i := w) (v := HF (LL[w]'hwL).1) h' (by omega) (by simp [bK]) ?_;refine na (v := vi (ats[w] : Nat)) h' hw hav ?_;refine KJ (s := HF (LL[w]'hwL).1) (l := (LL[w]'hwL).2) h' hat ?_;refine bj h' fun cb H1 h1 => ?_;refine f7 h1 rfl rfl fun H2 h2 => ?_;refine aU h2 ?_;refine na (v := vi (ats[w] : Nat)) h2 hw hav ?_;have hat400 : ats[w] ≤ i := ha _ (PN hal);refine ag h2 (JN p x rp σ w ats[w] (by have := S.N; omega)) fun _ H3 h3 => ?_;refine aq h3 aD rfl ?_;refine aU h3 ?_;obtain ⟨c, hc⟩ : ∃ c : Cl, c = (LL[w]'hwL).2[ats[w]]'hat := ⟨_, rfl⟩;rw [← hc] at h3 ⊢;have hb : bM (σ.begin w ats[w]).c = true := S.c;refine ag h3 (R6 p rp (σ.begin w ats[w]) hb w c) fun e H4 h4 => ?_;refine bg aD ?_;refine aN h4 rfl ?_;refine aG h3 h4 (by rfl) ?_;refine aU h4 ?_;refine dB h3 h4 rfl ?_;refine ag h4 (GV x (σ.begin w ats[w]) w c 0) fun xk H5 h5 => ?_;refine NK (v := vp e) (w := w) h5 hw W.el rfl fun H6 h6 => ?_;refine NK (v := vp xk) (w := w) h6 hw W.xl rfl fun H7 h7 => ?_;refine na (v := vi (ats[w] : Nat)) h7 hw hav ?_;refine aa (aO (by omega) (by omega)) ?_;rw [show ((ats[w] : Nat) : Int) + 1 = ((ats[w] + 1 : Nat) : Int) from by omega];refine NK (v := vi ((ats[w] + 1 : Nat) : Int)) (w := w) h7 hw (by rw [qM]; exact W.al) rfl fun H8 h8 => ?_;refine na (v := vp e) h8 hw (by rw [List.getElem?_set_self hel]) ?_;refine aa (mi _) ?_;refine gs ?_;have W2 := (W.mono (σ' := σ.begin w ats[w]) rfl rfl).set hw (q := some (e, xk, Tk.new (σ.begin w ats[w]).c w c)) (e2 := vp e) (x2 := vp xk) (ats[w] + 1) ⟨rfl, rfl, eG.new hb w c⟩;obtain ⟨Rw, es1, es2⟩ := CU p x rp hwl;rw [hq] at es1;have es1' : Rf p x rp ws = emp * Rw := es1;have e3 := es2 (some (e, xk, Tk.new (σ.begin w ats[w]).c w c));have e3' : Rf p x rp (ws.set w (some (e, xk, Tk.new (σ.begin w ats[w]).c w c))) = eT e p rp (Tk.new (σ.begin w ats[w]).c w c) * xT xk x (Tk.new (σ.begin w ats[w]).c w c) * Rw := e3;refine step w hw hpw e xk (Tk.new (σ.begin w ats[w]).c w c) (K + 1) (σ.begin w ats[w]) _ _ _ (ats.set w (ats[w] + 1)) H8 (S.begin _ _) (by omega) (by rw [hc]; exact hJb i now σ ws ats w e xk (LL[w]'hwL) ats[w] (br hwL) (br hal) hat S.c W.l W.al (by rw [br hwl, hq]) hJ) W2 (fun a h2 => ?_) (by rw [List.getElem_set_self]) ?_
     ·rcases List.mem_or_eq_of_mem_set h2 with h2 | rfl
      ·have := ha a h2; omega
      ·omega
     ·unfold Ws
      rw [e3']
      have em : ((ats.set w (ats[w] + 1)).map fun (n : Nat) => vi (n : Int)) = (ats.map fun (n : Nat) => vi (n : Int)).set w (vi ((ats[w] + 1 : Nat) : Int)) := by rw [List.map_set]
      rw [em];rw [es1', jd] at h8;exact h8.to
  refine aj (Jq ..) ?_;refine ja (s := pv) (l := picks) h ?_;rw [show (i : Int).tmod 4 = ((i % 4 : Nat) : Int) from by rw [Xv (by omega)]; omega]
  by_cases hpl : i < picks.length
  ·refine aa (cJ (by omega)) ?_
   refine gs ?_;refine i9 (s := pv) (l := picks) (v := vi picks[i]) h hpl rfl ?_;refine KH h (by omega) (by omega) fun H1 h1 => ?_;have m9 := eZ (v := picks[i]) (n := 9) (by omega)
   have other : wp ((ak .other .rem (vi (dM picks[i] 9)) (vi 4)).bind fun v123 => tP (vs lb 4 1) pv (vi (most : Int)) (vb false) (vp pb) x10 x11 (vp eb) (vp xb) (vp ab) (vi (now : Int)) (vi (i : Int)) v123 H1) (Ro p x rp LL most J Z) := by
    refine aa (i8 (by omega)) ?_
    obtain ⟨w, hw, ew⟩ : ∃ w : Nat, w < 4 ∧ (dM picks[i] 9).tmod 4 = (w : Int) := by
     rw [Xv m9.1];exact ⟨(dM picks[i] 9 % 4).toNat, by omega, by omega⟩
    rw [ew];exact pick w hw (fun h => by omega) H1 h1
   by_cases h8 : dM picks[i] 9 = 8
   ·refine aa (bv h8) ?_
    refine gs ?_;exact other
   ·refine aa (aR h8) ?_
    refine gs ?_;exact other
  ·refine aa (b4 (by omega)) ?_
   refine gs ?_;exact pick (i % 4) (by omega) (fun _ => rfl) H h
end
theorem JO (p x : Nat) (rp : List Nat) (σ : az) (K : Nat) (S : SI σ K) (hK : K ≤ 16) (lb : Nat) (LL : List (lW × List Cl)) (hL : LL.length = 4) (pv : Value) (picks : List Int) (most : Nat) (hm : most ≤ 4000) (J : Nat → Nat → az → List Wk → List Nat → Prop) (hJ0 : J 0 0 σ [none, none, none, none] [0, 0, 0, 0])
 (hJs : ∀ (i : Nat) (σ : az) (ws : List Wk) (ats : List Nat) (w : Nat) (q : Nat × Nat × Tk) (now K : Nat), i < most → (picks.length ≤ i → w = i % 4) → K < 60000 → SI σ K → ws.length = 4 → ats.length = 4 → ws[w]? = some (some q) → eG σ q.2.2 → J i now σ ws ats →
  J (i + 1) (now + 1) (ah σ q.2.2 now).1 (ws.set w (if (ah σ q.2.2 now).2.2 = true then none else some (q.1, q.2.1, (ah σ q.2.2 now).2.1))) ats)
 (hJb : ∀ (i now : Nat) (σ : az) (ws : List Wk) (ats : List Nat) (w e xk : Nat) (L : lW × List Cl) (a : Nat) (hLw : LL[w]? = some L) (haw : ats[w]? = some a) (hal : a < L.2.length), bM σ.c = true → ws.length = 4 → ats.length = 4 → ws[w]? = some none → J i now σ ws ats → J i now (σ.begin w a) (ws.set w (some (e, xk, Tk.new σ.c w L.2[a]))) (ats.set w (a + 1)))
 (hJn : ∀ (i now : Nat) (σ : az) (ws : List Wk) (ats : List Nat) (w : Nat) (L : lW × List Cl) (a : Nat), (picks.length ≤ i → w = i % 4) → LL[w]? = some L → ats[w]? = some a → L.2.length ≤ a → ws.length = 4 → ws[w]? = some none → J i now σ ws ats → J (i + 1) now σ ws ats)
 {Z : SP} [hP : Rd Z pv 1 dC picks] {P : SP} {H : AH} (h : ac P H) [f : Fr P (bT p rp σ * (bD x σ * (ts 1 jt (vs lb 4 1) (bK LL) * dz LL))) Z] {k : Value × AH → OV} {Q : Value → AH → Prop}
 (hk : ∀ (b : Bool) (now' : Nat) (σ' : az) (ws' : List Wk) (ats' : List Nat) (H' : AH), SI σ' 60000 → J most now' σ' ws' ats' → (b = true ↔ Wx LL ws' ats') → ac (bT p rp σ' * (bD x σ' * Z)) H' → wp (k (.tuple #[vb b, vb true], H')) Q) :
 wp ((FF M0 [.agg [vp p, vp x].toArray, vs lb 4 1, pv, vi (most : Int), vb false] H).bind k) Q := by
 have h0 : ac (bT p rp σ * (bD x σ * (ts 1 jt (vs lb 4 1) (bK LL) * dz LL)) * Z) H := ac.fr h
 have main : wp (FF M0 [.agg [vp p, vp x].toArray, vs lb 4 1, pv, vi (most : Int), vb false] H) (Ro p x rp LL most J Z) := by
  refine a9 (fun r => Zl _ _ _ _ _ H) ?_;refine aZ (l := [vp p, vp x]) h0 fun pb H1 h1 => ?_;refine bj h1 fun eb H2 h2 => ?_;refine bj h2 fun xb H3 h3 => ?_;refine bj h3 fun ab H4 h4 => ?_;refine aj (PO ..) ?_;refine aj (Jn ..) ?_;refine Hn p x pb eb xb ab rp lb LL pv picks most J (vb false) (vb false) Z hL hm hJs hJb hJn most 0 K 0 σ [none, none, none, none] [.pointer none, .pointer none, .pointer none, .pointer none] [.pointer none, .pointer none, .pointer none, .pointer none] [0, 0, 0, 0] H4 (by omega) S (by omega) (bf _) ⟨rfl, rfl, rfl, rfl, fun w hw => ?_⟩ (fun a ha => ?_) hJ0 ?_
  ·have : w = 0 ∨ w = 1 ∨ w = 2 ∨ w = 3 := by omega
   rcases this with rfl | rfl | rfl | rfl <;> rfl
  ·simp at ha; omega
  ·show ac (blk pb (.cells false [vp p, vp x]) * (blk eb (.cells false [.pointer none, .pointer none, .pointer none, .pointer none]) * (blk xb (.cells false [.pointer none, .pointer none, .pointer none, .pointer none]) * (blk ab (.cells false [vi 0, vi 0, vi 0, vi 0]) * (bT p rp σ * (bD x σ * ((emp * (emp * (emp * (emp * emp)))) * (ts 1 jt (vs lb 4 1) (bK LL) * (dz LL * Z))))))))) H4
   exact h4.to
 obtain ⟨v, H', e, b, now', σ', ws', ats', rfl, S', hJ', hb, h'⟩ := main;rw [e];exact hk b now' σ' ws' ats' H' S' hJ' hb h'
def Op3 (ws : List Wk) : Prop := ∀ (w : Nat) (q : Nat × Nat × Tk), ws[w]? = some (some q) → q.2.2.x.op = 3
theorem Op3.set {ws : List Wk} (h : Op3 ws) {w : Nat} {q : Wk} (hq : ∀ z, q = some z → z.2.2.x.op = 3) : Op3 (ws.set w q) := fun w' z hz => by
 by_cases e : w' = w
 ·subst e
  have hl := w5 hz;rw [vx] at hl;rw [List.getElem?_set_self hl] at hz;exact hq z (fg hz)
 ·rw [List.getElem?_set_ne (fun h => e h.symm)] at hz
  exact h w' z hz
def YZ (_ _ : Nat) (σ : az) (ws : List Wk) (_ : List Nat) : Prop := RJ σ ws ∧ Op3 ws
theorem YZ.step {i i' n n' : Nat} {σ : az} {ws : List Wk} {ats : List Nat} {w : Nat} {q : Nat × Nat × Tk} {now : Int} {K : Nat} (hK : K < 60000) (S : SI σ K) (hl : ws.length = 4) (hw : ws[w]? = some (some q)) (M : YZ i n σ ws ats) :
 YZ i' n' (ah σ q.2.2 now).1 (ws.set w (if (ah σ q.2.2 now).2.2 = true then none else some (q.1, q.2.1, (ah σ q.2.2 now).2.1))) ats := by
 have ho := M.2 w q hw;have e : pJ σ q.2.2 now = ah σ q.2.2 now := if_pos ho;have h1 := M.1.step (now := now) hK S hl hw;rw [e] at h1;refine ⟨h1, M.2.set fun z hz => ?_⟩
 split at hz
 ·cases hz
 ·cases hz
  show (ah σ q.2.2 now).2.1.x.op = 3;rw [XY]; exact ho
theorem YZ.begin {i n : Nat} {σ : az} {ws : List Wk} {ats ats' : List Nat} {w e xk : Nat} {place : Int} {c : Cl} (hc : c.op = 3) (hl : ws.length = 4) (hw : ws[w]? = some none) (M : YZ i n σ ws ats) : YZ i n (σ.begin w place) (ws.set w (some (e, xk, Tk.new σ.c w c))) ats' := by
 have h1 := M.1.begin (e := e) (xk := xk) (place := place) (c := c) hl hw;have e1 : Tk.newA σ.c w c = Tk.new σ.c w c := if_pos hc;rw [e1] at h1;exact ⟨h1, M.2.set fun z hz => by cases hz; exact hc⟩
theorem X3 {P : SP} {H : AH} {k : Value × AH → OV} {Q : Value → AH → Prop} (h : ac P H) [i : Hs P 0 (.cells true tabC)] (hk : ∀ H', ac P H' → wp (k (vb true, H')) Q) : wp ((FF pd [] H).bind k) Q := by
 obtain ⟨H', e, _, hg⟩ := HX (D := []) (fun j hj => by cases hj) (by decide) N5 (i.get h);have e' : FF pd [] H = some (vb true, H') := e;rw [e'];exact hk H' (h.keeps hg)
structure RA (B R p : Nat) (fin : Nat → Prop) (Φ : Nat → Nat) (hd : Nat → Prop) : Prop where
 a1 : ∀ v, v < 4 → ¬ fin v → Φ v + R ≤ B
 a2 : ∀ v u, v < 4 → u < p → u ≠ v → hd u → ¬ fin v → Φ v + R + 1 ≤ B
 a3 : ∀ v, v < p → ¬ fin v → Φ v + R + 1 ≤ B ∨ ∃ u, p ≤ u ∧ u < 4 ∧ u ≠ v ∧ hd u
section
variable {B R p : Nat} {fin fin' : Nat → Prop} {Φ Φ' : Nat → Nat} {hd hd' : Nat → Prop}
theorem RA.turn (h : RA B R p fin Φ hd) (hp : p < 4) (hf : ∀ v, v < 4 → ¬ fin' v → ¬ fin v) (hh : ∀ u, u ≠ p → hd' u → hd u) (hh2 : ∀ u, u ≠ p → hd u → hd' u) (hΦ : ∀ v, v < 4 → v ≠ p → Φ' v ≤ Φ v)
 (hH : hd p ∨ hd' p → ∀ v, v < 4 → v ≠ p → Φ' v + 1 ≤ Φ v) (hown : ¬ fin' p → Φ' p + 1 ≤ Φ p ∨ Φ' p ≤ Φ p ∧ ∃ u, u < 4 ∧ u ≠ p ∧ hd u) : RA B R (p + 1) fin' Φ' hd' := by
 have le : ∀ v, v < 4 → ¬ fin' v → Φ' v ≤ Φ v := fun v hv hn => by
  by_cases e : v = p
  ·subst e
   rcases hown hn with h1 | ⟨h1, _⟩ <;> omega
  ·exact hΦ v hv e
 refine ⟨fun v hv hn => ?_, fun v u hv hu hne hdu hn => ?_, fun v hv hn => ?_⟩
 ·have := h.a1 v hv (hf v hv hn)
  have := le v hv hn;omega
 ·by_cases e : u = p
  ·subst e
   have := hH (.inr hdu) v hv (fun q => hne q.symm);have := h.a1 v hv (hf v hv hn);omega
  ·have := h.a2 v u hv (by omega) hne (hh u e hdu) (hf v hv hn)
   have := le v hv hn;omega
 ·by_cases e : v = p
  ·subst e
   have h1 := h.a1 v hp (hf v hp hn)
   rcases hown hn with h2 | ⟨h2, u, u1, u2, u3⟩
   ·left; omega
   ·rcases Nat.lt_or_ge u v with h3 | h3
    ·have := h.a2 v u hp h3 u2 u3 (hf v hp hn)
     left; omega
    ·exact .inr ⟨u, by omega, u1, u2, hh2 u u2 u3⟩
  ·have hv4 : v < 4 := by omega
   rcases h.a3 v (by omega) (hf v hv4 hn) with h2 | ⟨u, u1, u2, u3, u4⟩
   ·have := le v hv4 hn
    left; omega
   ·by_cases e2 : u = p
    ·subst e2
     have := hH (.inl u4) v hv4 e;have := h.a1 v hv4 (hf v hv4 hn)
     left; omega
    ·exact .inr ⟨u, by omega, u2, u3, hh2 u e2 u4⟩
theorem RA.wrap (h : RA B R 4 fin Φ hd) : RA B (R + 1) 0 fin Φ hd :=
 ⟨fun v hv hn => by
  rcases h.a3 v hv hn with h | ⟨u, h1, h2, _⟩
  ·omega
  ·omega, fun v u _ hu => by omega, fun v hv => by omega⟩
end
def S4 (f : Nat → Nat) : Nat := f 0 + f 1 + f 2 + f 3
theorem sS (f : Nat → Nat) {w : Nat} (h : w < 4) : f w ≤ S4 f := by
 unfold S4
 have : w = 0 ∨ w = 1 ∨ w = 2 ∨ w = 3 := by omega
 rcases this with rfl | rfl | rfl | rfl <;> omega
theorem uT {f f' : Nat → Nat} {w : Nat} (h : w < 4) (e : ∀ u, u < 4 → u ≠ w → f' u = f u) : S4 f' + f w = S4 f + f' w := by
 unfold S4;have e0 := e 0 (by omega);have e1 := e 1 (by omega);have e2 := e 2 (by omega);have e3 := e 3 (by omega)
 have : w = 0 ∨ w = 1 ∨ w = 2 ∨ w = 3 := by omega
 rcases this with rfl | rfl | rfl | rfl
 ·rw [e1 (by omega), e2 (by omega), e3 (by omega)]; omega
 ·rw [e0 (by omega), e2 (by omega), e3 (by omega)]; omega
 ·rw [e0 (by omega), e1 (by omega), e3 (by omega)]; omega
 ·rw [e0 (by omega), e1 (by omega), e2 (by omega)]; omega
section
variable (n : Nat) (σ : az) (tk : Nat → Option Tk) (fut : Nat → Nat)
def dW (w : Nat) : Nat := (match tk w with | some t => dT n σ t | none => 0) + fut w * (14 + 2 * n)
def eW (w : Nat) : Nat := (match tk w with | some t => kc n t | none => 0) + fut w * (n + 13)
def xA (w : Nat) : Nat := dW n σ tk fut w + (S4 (eW n tk fut) - eW n tk fut w)
def Bu (w : Nat) : Prop := tk w = none ∧ fut w = 0
def Gm (w : Nat) : Prop := ∃ t, tk w = some t ∧ iQ t
end
section
variable {n : Nat} {σ : az} {tk : Nat → Option Tk} {fut : Nat → Nat} {w : Nat} {t : Tk} {r : az × Tk × Bool}
theorem aaG (P : PotR n σ t r) : kf n r ≤ kc n t := by
 have h := P.oth { t with at' := 11 };have e : ∀ σ' : az, dT n σ' { t with at' := 11 } = 1 := fun σ' => rfl;rw [e, e] at h;omega
theorem aaH (P : PotR n σ t r) (hh : iQ t ∨ t.at' = 3 ∧ ¬ uE σ t) : kf n r + 1 ≤ kc n t := by
 have h := P.hol hh { t with at' := 11 };have e : ∀ σ' : az, dT n σ' { t with at' := 11 } = 1 := fun σ' => rfl;rw [e, e] at h;omega
abbrev kF (tk : Nat → Option Tk) (w : Nat) (r : az × Tk × Bool) : Nat → Option Tk := fun k => if k = w then (if r.2.2 = true then none else some r.2.1) else tk k
theorem Ln (ht : tk w = some t) (P : PotR n σ t r) : eW n (kF tk w r) fut w + kc n t = eW n tk fut w + kf n r := by
 unfold eW kf kF;rw [if_pos rfl, ht]
 cases r.2.2 <;> simp <;> omega
theorem FW {u : Nat} (h : u ≠ w) : eW n (kF tk w r) fut u = eW n tk fut u := by
 unfold eW kF;rw [if_neg h]
theorem Zw (hw : w < 4) (ht : tk w = some t) (P : PotR n σ t r) {v : Nat} (hv : v < 4) (hne : v ≠ w) : xA n r.1 (kF tk w r) fut v ≤ xA n σ tk fut v := by
 have e1 := Ln (fut := fut) ht P;have e2 := uT hw (f := eW n tk fut) (f' := eW n (kF tk w r) fut) (fun u _ hu => FW hu);have e3 : eW n (kF tk w r) fut v = eW n tk fut v := FW hne;have l1 := sS (eW n tk fut) hv;have l2 := sS (eW n (kF tk w r) fut) hv
 have d : dW n r.1 (kF tk w r) fut v + kf n r ≤ dW n σ tk fut v + kc n t := by
  unfold dW kF;rw [if_neg hne]
  cases tk v with
  | none => have := aaG P; dsimp only; omega
  | some u => have := P.oth u; dsimp only; omega
 unfold xA;omega
theorem Zv (hw : w < 4) (ht : tk w = some t) (P : PotR n σ t r) (hh : iQ t ∨ t.at' = 3 ∧ ¬ uE σ t) {v : Nat} (hv : v < 4) (hne : v ≠ w) : xA n r.1 (kF tk w r) fut v + 1 ≤ xA n σ tk fut v := by
 have e1 := Ln (fut := fut) ht P;have e2 := uT hw (f := eW n tk fut) (f' := eW n (kF tk w r) fut) (fun u _ hu => FW hu);have e3 : eW n (kF tk w r) fut v = eW n tk fut v := FW hne;have l1 := sS (eW n tk fut) hv;have l2 := sS (eW n (kF tk w r) fut) hv
 have d : dW n r.1 (kF tk w r) fut v + kf n r + 1 ≤ dW n σ tk fut v + kc n t := by
  unfold dW kF;rw [if_neg hne]
  cases tk v with
  | none => have := aaH P hh; dsimp only; omega
  | some u => have := P.hol hh u; dsimp only; omega
 unfold xA;omega
theorem XL (hw : w < 4) (ht : tk w = some t) (P : PotR n σ t r) : xA n r.1 (kF tk w r) fut w + 1 ≤ xA n σ tk fut w ∨ uE σ t ∧ xA n r.1 (kF tk w r) fut w ≤ xA n σ tk fut w := by
 have e2 := uT hw (f := eW n tk fut) (f' := eW n (kF tk w r) fut) (fun u _ hu => FW hu);have l1 := sS (eW n tk fut) hw;have l2 := sS (eW n (kF tk w r) fut) hw
 have d0 : dW n σ tk fut w = dT n σ t + fut w * (14 + 2 * n) := by unfold dW; rw [ht]
 have d1 : dW n r.1 (kF tk w r) fut w = (if r.2.2 = true then 0 else dT n r.1 r.2.1) + fut w * (14 + 2 * n) := by
  unfold dW kF;rw [if_pos rfl]
  cases r.2.2 <;> rfl
 by_cases hs : uE σ t
 ·obtain ⟨s1, s2, s3⟩ := P.spn hs
  rw [s1, if_neg (by simp), s2] at d1
  right
  refine ⟨hs, ?_⟩;unfold xA;omega
 ·left
  unfold xA
  rcases P.own with h | h | h
  ·exact absurd h hs
  ·rw [if_pos h] at d1
   have : 1 ≤ dT n σ t := RV _ _ _ _ _;omega
  ·have : (if r.2.2 = true then 0 else dT n r.1 r.2.1) + 1 ≤ dT n σ t := by
    split
    ·have : 1 ≤ dT n σ t := RV _ _ _ _ _
     omega
    ·exact h
   omega
theorem XK (hw : w < 4) (h0 : tk w = none) {fut' : Nat → Nat} (hf : fut' w + 1 = fut w) (hf2 : ∀ u, u ≠ w → fut' u = fut u) (t : Tk) (σ' : az) (hV : σ'.μ.V = σ.μ.V) {v : Nat} (hv : v < 4) :
 xA n σ' (fun k => if k = w then some t else tk k) fut' v ≤ xA n σ tk fut v := by
 have dd : ∀ u, dT n σ' u = dT n σ u := fun u => by unfold dT wj z6; rw [hV]
 have ne : ∀ u, u ≠ w → eW n (fun k => if k = w then some t else tk k) fut' u = eW n tk fut u := fun u hu => by unfold eW; dsimp only; rw [if_neg hu, hf2 u hu]
 have ew : eW n (fun k => if k = w then some t else tk k) fut' w ≤ eW n tk fut w := by
  unfold eW;dsimp only;rw [if_pos rfl, h0, ← hf, Nat.add_mul];have := aaD n t.i t.at';dsimp only;unfold kc;omega
 have e2 := uT hw (f := eW n tk fut) (f' := eW n (fun k => if k = w then some t else tk k) fut') (fun u _ hu => ne u hu);have l1 := sS (eW n tk fut) hv;have l2 := sS (eW n (fun k => if k = w then some t else tk k) fut') hv
 by_cases e : v = w
 ·subst e
  have d : dW n σ' (fun k => if k = v then some t else tk k) fut' v ≤ dW n σ tk fut v := by
   unfold dW;dsimp only;rw [if_pos rfl, h0, ← hf, Nat.add_mul];have : dT n σ t ≤ 14 + 2 * n := aaA n (wj σ t) (z6 σ t) t.i t.at';have := dd t;dsimp only;omega
  unfold xA;omega
 ·have d : dW n σ' (fun k => if k = w then some t else tk k) fut' v = dW n σ tk fut v := by
   unfold dW;dsimp only;rw [if_neg e, hf2 v e]
   cases tk v with
   | none => rfl
   | some u => dsimp only; rw [dd]
  have := ne v e;unfold xA;omega
end
section
variable {σ : az} {t : Tk}
theorem VS (μ : Mu) (who : Int) (l : bC) (a b : Nat) (z : bC) (h : z.1 ≠ l.1) : (μ.swp who l a b).V z = μ.V z := by
 rw [jD]
 split
 ·exact rD h
 ·rfl
theorem VT (μ : Mu) (who : Int) (o w : Nat) (m : Option Nat) (z : bC) (h : z.1 ≠ 11) : (μ.turn who o w m).V z = μ.V z := by
 cases m with
 | none => rfl
 | some m => exact VS _ _ _ _ _ _ h
theorem XX (now : Int) (z : bC) (h : z.1 ≠ 3 ∧ z.1 ≠ 9 ∧ z.1 ≠ 11 ∧ z.1 ≠ 15) (h8 : z.1 = 8 → t.at' ≠ 3 ∧ t.at' ≠ 5) : (ah σ t now).1.μ.V z = σ.μ.V z := by
 obtain ⟨h3, h9, h11, h15⟩ := h;unfold ah;dsimp only
 split
 ·split <;> rfl
 ·rfl
 ·rename_i hat
  exact VS _ _ _ _ _ _ (fun e => (h8 e).1 hat)
 ·split
  ·rfl
  ·split <;> rfl
 ·rename_i hat
  exact rD (fun e => (h8 e).2 hat)
 ·rfl
 ·rfl
 ·rfl
 ·split <;> exact VT _ _ _ _ _ _ h11
 ·rfl
 ·exact rD h15
 ·exact rD h3
 ·split <;> exact VT _ _ _ _ _ _ h11
 ·rfl
 ·rfl
 ·rfl
 ·rfl
 ·split <;> rfl
 ·exact rD h3
 ·exact rD h15
 ·rfl
 ·rfl
 ·exact VS _ _ _ _ _ _ h9
 ·exact rD h3
theorem VA (now : Int) (s : Int) (h : (ah σ t now).1.μ.V (8, s, 0) ≠ 0) :
 (σ.μ.V (8, s, 0) ≠ 0 ∧ (iQ t → t.s = s → (ah σ t now).2.2 = false ∧ iQ (ah σ t now).2.1 ∧ (ah σ t now).2.1.s = s)) ∨ ((ah σ t now).2.2 = false ∧ iQ (ah σ t now).2.1 ∧ (ah σ t now).2.1.s = s) := by
 by_cases a3 : t.at' = 3
 ·have e : ah σ t now = (σ.mem (σ.μ.swp t.who (8, t.s, 0) 0 1), (if σ.μ.V (8, t.s, 0) = 0 then { t with at' := 4, i := 0 } else t), false) := by unfold ah; simp only [a3]
  rw [e] at h ⊢;have h : (σ.μ.swp t.who (8, t.s, 0) 0 1).V (8, s, 0) ≠ 0 := h;rw [jD] at h
  by_cases h0 : σ.μ.V (8, t.s, 0) = 0
  ·rw [if_pos h0] at h ⊢
   by_cases hs : t.s = s
   ·exact .inr ⟨rfl, .inl rfl, hs⟩
   ·rw [if_neg (fun q => hs (by injection q with _ q; injection q with q _; exact q.symm))] at h
    exact .inl ⟨h, fun q => by rcases q with q | q <;> omega⟩
  ·rw [if_neg h0] at h ⊢
   exact .inl ⟨h, fun q => by rcases q with q | q <;> omega⟩
 by_cases a5 : t.at' = 5
 ·have e : ah σ t now = (σ.mem ((σ.μ.acc t.who 2 (8, t.s, 0)).put (8, t.s, 0) 0), { t with at' := 6 }, !t.found) := by unfold ah; simp only [a5]
  rw [e] at h;have h : (if ((8 : Int), s, (0 : Int)) = (8, t.s, 0) then 0 else σ.μ.V (8, s, 0)) ≠ 0 := h
  by_cases hs : t.s = s
  ·rw [if_pos (by rw [hs])] at h
   exact absurd rfl h
  ·rw [if_neg (fun q => hs (by injection q with _ q; injection q with q _; exact q.symm))] at h
   exact .inl ⟨h, fun _ q => absurd q hs⟩
 rw [XX now (8, s, 0) ⟨by simp, by simp, by simp, by simp⟩ (fun _ => ⟨a3, a5⟩)] at h;refine .inl ⟨h, fun q hs => ?_⟩
 have a4 : t.at' = 4 := by
  rcases q with q | q
  ·exact q
  ·exact absurd q a5
 unfold ah;simp only [a4]
 split
 ·exact ⟨rfl, .inr rfl, hs⟩
 ·split
  ·exact ⟨rfl, .inr rfl, hs⟩
  ·exact ⟨rfl, .inl (show (aA σ t).at' = 4 from a4), hs⟩
end
def gG (LL : List (lW × List Cl)) (ats : List Nat) (w : Nat) : Nat := ((LL[w]?).map fun q => q.2.length).getD 0 - (ats[w]?).getD 0
structure LJ (c0 : eR) (LL : List (lW × List Cl)) (B : Nat) (i : Nat) (σ : az) (ws : List Wk) (ats : List Nat) : Prop where
 c : σ.c = c0
 sf : Sfs σ
 tf : ∀ w t, w < 4 → de ws w = some t → KU σ t
 mu : ∀ s, σ.μ.V (8, s, 0) ≠ 0 → ∃ u t, u < 4 ∧ de ws u = some t ∧ iQ t ∧ t.s = s
 r0 : i < 300 → RA B 0 0 (Bu (de ws) (gG LL ats)) (xA c0.sl.toNat σ (de ws) (gG LL ats)) (Gm (de ws))
 r1 : 300 ≤ i → RA B ((i - 300) / 4) ((i - 300) % 4) (Bu (de ws) (gG LL ats)) (xA c0.sl.toNat σ (de ws) (gG LL ats)) (Gm (de ws))
section
variable {c0 : eR} {LL : List (lW × List Cl)} {B i N0 : Nat} {σ : az} {ws : List Wk} {ats : List Nat} {w : Nat}
theorem RA.any {B : Nat} {fin : Nat → Prop} {Φ : Nat → Nat} {hd : Nat → Prop} (h : ∀ v, v < 4 → ¬ fin v → Φ v ≤ B) : RA B 0 0 fin Φ hd := ⟨h, fun v u _ hu => by omega, fun v hv => by omega⟩
theorem RA.next {B : Nat} {fin fin' : Nat → Prop} {Φ Φ' : Nat → Nat} {hd hd' : Nat → Prop} {i : Nat} (h0 : i < 300 → RA B 0 0 fin Φ hd) (h1 : 300 ≤ i → RA B ((i - 300) / 4) ((i - 300) % 4) fin Φ hd) (hp : 300 ≤ i → w = i % 4) (hw : w < 4)
 (hf : ∀ v, v < 4 → ¬ fin' v → ¬ fin v) (hh : ∀ u, u ≠ w → hd' u → hd u) (hh2 : ∀ u, u ≠ w → hd u → hd' u) (hΦ : ∀ v, v < 4 → v ≠ w → Φ' v ≤ Φ v)
 (hH : hd w ∨ hd' w → ∀ v, v < 4 → v ≠ w → Φ' v + 1 ≤ Φ v) (hown : ¬ fin' w → Φ' w + 1 ≤ Φ w ∨ Φ' w ≤ Φ w ∧ ∃ u, u < 4 ∧ u ≠ w ∧ hd u) :
 (i + 1 < 300 → RA B 0 0 fin' Φ' hd') ∧ (300 ≤ i + 1 → RA B ((i + 1 - 300) / 4) ((i + 1 - 300) % 4) fin' Φ' hd') := by
 have le : ∀ v, v < 4 → ¬ fin' v → Φ' v ≤ Φ v := fun v hv hn => by
  by_cases e : v = w
  ·subst e
   rcases hown hn with h1 | ⟨h1, _⟩ <;> omega
  ·exact hΦ v hv e
 by_cases hi : i < 300
 ·have h := h0 hi
  have a : RA B 0 0 fin' Φ' hd' := RA.any fun v hv hn => by
   have := h.a1 v hv (hf v hv hn);have := le v hv hn;omega
  refine ⟨fun _ => a, fun h2 => ?_⟩
  have e1 : (i + 1 - 300) / 4 = 0 := by omega
  have e2 : (i + 1 - 300) % 4 = 0 := by omega
  rw [e1, e2];exact a
 ·have h := h1 (by omega)
  have hw2 : w = (i - 300) % 4 := by have := hp (by omega); omega
  rw [← hw2] at h;have t := h.turn hw hf hh hh2 hΦ hH hown;refine ⟨fun h2 => by omega, fun _ => ?_⟩
  by_cases h3 : w = 3
  ·rw [h3] at t
   have t2 := t.wrap
   have e1 : (i + 1 - 300) / 4 = (i - 300) / 4 + 1 := by omega
   have e2 : (i + 1 - 300) % 4 = 0 := by omega
   rw [e1, e2];exact t2
  ·have e1 : (i + 1 - 300) / 4 = (i - 300) / 4 := by omega
   have e2 : (i + 1 - 300) % 4 = w + 1 := by omega
   rw [e1, e2];exact t
theorem Uc {a : Nat} {L : lW × List Cl} (hL : LL[w]? = some L) (ha : ats[w]? = some a) (hlt : a < L.2.length) : gG LL (ats.set w (a + 1)) w + 1 = gG LL ats w ∧ ∀ u, u ≠ w → gG LL (ats.set w (a + 1)) u = gG LL ats u := by
 have hwl : w < ats.length := by
  rcases Nat.lt_or_ge w ats.length with h | h
  ·exact h
  ·rw [List.getElem?_eq_none h] at ha; cases ha
 refine ⟨?_, fun u hu => ?_⟩
 ·unfold gG
  rw [List.getElem?_set_self hwl, hL, ha];simp;omega
 ·unfold gG
  rw [List.getElem?_set_ne (fun h => hu h.symm)]
theorem LJ.begin (M : LJ c0 LL B i σ ws ats) {e xk a : Nat} {L : lW × List Cl} {c : Cl} (hLw : LL[w]? = some L) (haw : ats[w]? = some a) (hal : a < L.2.length) (hl : ws.length = 4) (hw : ws[w]? = some none) :
 LJ c0 LL B i (σ.begin w a) (ws.set w (some (e, xk, Tk.new σ.c w c))) (ats.set w (a + 1)) := by
 have hwl := w5 hw
 have hw4 : w < 4 := by omega
 have h0 : de ws w = none := by unfold de; rw [hw]
 obtain ⟨f1, f2⟩ := Uc hLw haw hal
 have tkE : ∀ k, de (ws.set w (some (e, xk, Tk.new σ.c w c))) k = if k = w then some (Tk.new σ.c w c) else de ws k := fun k => by rw [qx hwl]; rfl
 have tkF : de (ws.set w (some (e, xk, Tk.new σ.c w c))) = fun k => if k = w then some (Tk.new σ.c w c) else de ws k := funext tkE;have a0 : (Tk.new σ.c w c).at' = 0 := rfl
 have hdE : ∀ u, Gm (de (ws.set w (some (e, xk, Tk.new σ.c w c)))) u → Gm (de ws) u := fun u ⟨t, h1, h2⟩ => by
  rw [tkE] at h1
  by_cases q : u = w
  ·rw [if_pos q] at h1
   cases h1
   rcases h2 with h2 | h2 <;> rw [a0] at h2 <;> omega
  ·rw [if_neg q] at h1
   exact ⟨t, h1, h2⟩
 have hdF : ∀ u, Gm (de ws) u → Gm (de (ws.set w (some (e, xk, Tk.new σ.c w c)))) u := fun u ⟨t, h1, h2⟩ => by
  refine ⟨t, ?_, h2⟩;rw [tkE, if_neg (fun q => by rw [q, h0] at h1; cases h1)];exact h1
 have fn : ∀ v, ¬ Bu (de (ws.set w (some (e, xk, Tk.new σ.c w c)))) (gG LL (ats.set w (a + 1))) v → ¬ Bu (de ws) (gG LL ats) v := fun v h q => by
  by_cases e : v = w
  ·subst e
   have := q.2;omega
  ·refine h ⟨?_, ?_⟩
   ·rw [tkE, if_neg e]; exact q.1
   ·rw [f2 v e]; exact q.2
 have ph : ∀ v, v < 4 → xA c0.sl.toNat (σ.begin w a) (de (ws.set w (some (e, xk, Tk.new σ.c w c)))) (gG LL (ats.set w (a + 1))) v ≤ xA c0.sl.toNat σ (de ws) (gG LL ats) v := fun v hv => by
  rw [tkF];exact XK hw4 h0 f1 f2 _ _ rfl hv
 have conv : ∀ {R p : Nat}, RA B R p (Bu (de ws) (gG LL ats)) (xA c0.sl.toNat σ (de ws) (gG LL ats)) (Gm (de ws)) → p ≤ 4 →
  RA B R p (Bu (de (ws.set w (some (e, xk, Tk.new σ.c w c)))) (gG LL (ats.set w (a + 1)))) (xA c0.sl.toNat (σ.begin w a) (de (ws.set w (some (e, xk, Tk.new σ.c w c)))) (gG LL (ats.set w (a + 1)))) (Gm (de (ws.set w (some (e, xk, Tk.new σ.c w c))))) := fun h hp => by
  refine ⟨fun v hv hn => ?_, fun v u hv hu hne hh hn => ?_, fun v hv hn => ?_⟩
  ·have := h.a1 v hv (fn v hn); have := ph v hv; omega
  ·have := h.a2 v u hv hu hne (hdE u hh) (fn v hn); have := ph v hv; omega
  ·rcases h.a3 v hv (fn v hn) with h1 | ⟨u, u1, u2, u3, u4⟩
   ·have := ph v (by omega); left; omega
   ·exact .inr ⟨u, u1, u2, u3, hdF u u4⟩
 refine ⟨M.c, ⟨M.sf.v2, M.sf.wr, M.sf.hd⟩, fun w' t hw' ht => ?_, fun s hs => ?_, fun hi => conv (M.r0 hi) (by omega), fun hi => conv (M.r1 hi) (by omega)⟩
 ·rw [tkE] at ht
  by_cases e : w' = w
  ·rw [if_pos e] at ht
   cases ht;exact HG (by rw [a0]; omega)
  ·rw [if_neg e] at ht
   have T := M.tf w' t hw' ht;exact ⟨T.q, T.cw, T.fl, T.fw, T.rm⟩
 ·obtain ⟨u, t, u1, u2, u3, u4⟩ := M.mu s hs
  refine ⟨u, t, u1, ?_, u3, u4⟩;rw [tkE, if_neg (fun q => by rw [q, h0] at u2; cases u2)];exact u2
theorem LJ.skip (M : LJ c0 LL B i σ ws ats) {a : Nat} {L : lW × List Cl} (hp : 300 ≤ i → w = i % 4) (hLw : LL[w]? = some L) (haw : ats[w]? = some a) (hal : L.2.length ≤ a) (hl : ws.length = 4) (hw : ws[w]? = some none) : LJ c0 LL B (i + 1) σ ws ats := by
 have hw4 : w < 4 := by have := w5 hw; omega
 have h0 : de ws w = none := by unfold de; rw [hw]
 have hfin : Bu (de ws) (gG LL ats) w := ⟨h0, by unfold gG; rw [hLw, haw]; simp; omega⟩
 have nh : ¬ Gm (de ws) w := fun ⟨t, h1, _⟩ => by rw [h0] at h1; cases h1
 have r := RA.next M.r0 M.r1 hp hw4 (fun v _ h => h) (fun _ _ h => h) (fun _ _ h => h) (fun v _ _ => bf _) (fun h => absurd h (fun q => by rcases q with q | q <;> exact nh q)) (fun h => absurd hfin h)
 exact ⟨M.c, M.sf, M.tf, M.mu, r.1, r.2⟩
theorem LJ.step (M : LJ c0 LL B i σ ws ats) {K : Nat} {q : Nat × Nat × Tk} (now : Int) (hp : 300 ≤ i → w = i % 4) (S : SI σ K) (hl : ws.length = 4) (hw : ws[w]? = some (some q)) (T : eG σ q.2.2) :
 LJ c0 LL B (i + 1) (ah σ q.2.2 now).1 (ws.set w (if (ah σ q.2.2 now).2.2 = true then none else some (q.1, q.2.1, (ah σ q.2.2 now).2.1))) ats := by
 have hwl := w5 hw
 have hw4 : w < 4 := by omega
 have h0 : de ws w = some q.2.2 := by unfold de; rw [hw]
 have hcfg := bE.1 S.c
 have hn : ((c0.sl.toNat : Nat) : Int) = σ.c.sl := by rw [M.c] at hcfg ⊢; omega
 have P := QI hn T M.sf (M.tf w _ hw4 h0) (fun o ho => (S.cells o ho).2) now;obtain ⟨r, hr⟩ : ∃ r, r = ah σ q.2.2 now := ⟨_, rfl⟩
 have hc : r.1.c = σ.c := by
  rw [hr];unfold ah;dsimp only
  repeat' split
  all_goals rfl
 have mu := fun s => VA (σ := σ) (t := q.2.2) now s;rw [← hr] at P mu ⊢
 have tkE : ∀ k, de (ws.set w (if r.2.2 = true then none else some (q.1, q.2.1, r.2.1))) k = kF (de ws) w r k := fun k => by
  rw [qx hwl];unfold kF
  by_cases e : k = w
  ·rw [if_pos e, if_pos e]; split <;> rfl
  ·rw [if_neg e, if_neg e]
 have tkF : de (ws.set w (if r.2.2 = true then none else some (q.1, q.2.1, r.2.1))) = kF (de ws) w r := funext tkE;have hne : ∀ u, u ≠ w → kF (de ws) w r u = de ws u := fun u hu => if_neg hu;have hd1 : ∀ u, u ≠ w → Gm (kF (de ws) w r) u → Gm (de ws) u := fun u hu ⟨t, h1, h2⟩ => ⟨t, by rw [← hne u hu]; exact h1, h2⟩;have hd2 : ∀ u, u ≠ w → Gm (de ws) u → Gm (kF (de ws) w r) u := fun u hu ⟨t, h1, h2⟩ => ⟨t, by rw [hne u hu]; exact h1, h2⟩
 have hdw : Gm (de ws) w ∨ Gm (kF (de ws) w r) w → iQ q.2.2 ∨ q.2.2.at' = 3 ∧ ¬ uE σ q.2.2 := fun h => by
  rcases h with ⟨t, h1, h2⟩ | ⟨t, h1, h2⟩
  ·rw [h0] at h1
   cases h1;exact .inl h2
  ·have h1 : (if w = w then (if r.2.2 = true then none else some r.2.1) else de ws w) = some t := h1
   rw [if_pos rfl] at h1;cases hd : r.2.2
   ·rw [hd, if_neg (by simp)] at h1
    cases h1;exact P.hld hd h2
   ·rw [hd, if_pos rfl] at h1; cases h1
 have ra := RA.next (fin' := Bu (kF (de ws) w r) (gG LL ats)) (Φ' := xA c0.sl.toNat r.1 (kF (de ws) w r) (gG LL ats)) (hd' := Gm (kF (de ws) w r)) M.r0 M.r1 hp hw4
  (fun v _ h f => by
   by_cases e : v = w
   ·subst e
    have := f.1;rw [h0] at this;cases this
   ·exact h ⟨by rw [hne v e]; exact f.1, f.2⟩)
  hd1 hd2 (fun v hv hvw => Zw hw4 h0 P hv hvw) (fun h v hv hvw => Zv hw4 h0 P (hdw h) hv hvw)
  (fun _ => by
   rcases XL (fut := gG LL ats) hw4 h0 P with h | ⟨h1, h2⟩
   ·exact .inl h
   ·obtain ⟨u, t, u1, u2, u3, u4⟩ := M.mu q.2.2.s h1.2
    refine .inr ⟨h2, u, u1, fun e => ?_, t, u2, u3⟩;subst e;rw [h0] at u2;cases u2;have := h1.1
    rcases u3 with u3 | u3 <;> omega)
 refine ⟨hc.trans M.c, P.sf, fun w' t hw' ht => ?_, fun s hs => ?_, by rw [tkF]; exact ra.1, by rw [tkF]; exact ra.2⟩
 ·rw [tkE] at ht
  have ht : (if w' = w then (if r.2.2 = true then none else some r.2.1) else de ws w') = some t := ht
  by_cases e : w' = w
  ·rw [if_pos e] at ht
   cases hd : r.2.2
   ·rw [hd, if_neg (by simp)] at ht
    cases ht;exact P.tf hd
   ·rw [hd, if_pos rfl] at ht; cases ht
  ·rw [if_neg e] at ht
   exact P.ofs t (M.tf w' t hw' ht)
 ·have own : r.2.2 = false ∧ iQ r.2.1 ∧ r.2.1.s = s → ∃ u t, u < 4 ∧ de (ws.set w (if r.2.2 = true then none else some (q.1, q.2.1, r.2.1))) u = some t ∧ iQ t ∧ t.s = s := fun ⟨h1, h2, h3⟩ => by
   refine ⟨w, r.2.1, hw4, ?_, h2, h3⟩;rw [tkE];show (if w = w then (if r.2.2 = true then none else some r.2.1) else de ws w) = _;rw [if_pos rfl, h1, if_neg (by simp)]
  rcases mu s hs with ⟨h1, h2⟩ | h1
  ·obtain ⟨u, t, u1, u2, u3, u4⟩ := M.mu s h1
   by_cases e : u = w
   ·subst e
    rw [h0] at u2;cases u2;exact own (h2 u3 u4)
   ·exact ⟨u, t, u1, by rw [tkE, hne u e]; exact u2, u3, u4⟩
  ·exact own h1
theorem LJ.start {n : Nat} (hc : bM c0 = true) (hn : n ≤ 16) (hL : LL.length = 4) (hO : oB LL 20) : LJ c0 LL 365 0 (az.made c0 n) [none, none, none, none] [0, 0, 0, 0] := by
 have hcfg := bE.1 hc
 have V : ∀ k, k ≤ 16 → ∀ z : bC, z.1 ≠ 10 → (az.made c0 k).μ.V z = 0 := by
  intro k
  induction k with
  | zero => exact fun _ _ _ => rfl
  | succ k ih =>
   intro hk z hz;unfold az.made
   split
   ·show (if z = (10, _, _) then _ else (az.made c0 k).μ.V z) = 0
    rw [if_neg (fun e => hz (by rw [e]))];exact ih (by omega) z hz
   ·exact ih (by omega) z hz
 have V := V n hn
 have none4 : ∀ w, w < 4 → de [none, none, none, none] w = none := fun w hw => by
  have : w = 0 ∨ w = 1 ∨ w = 2 ∨ w = 3 := by omega
  rcases this with rfl | rfl | rfl | rfl <;> rfl
 have fl : ∀ w, w < 4 → gG LL [0, 0, 0, 0] w ≤ 5 := fun w hw => by
  unfold gG;rw [br (by omega)];have := (hO w _ (br (by omega))).1;simp;omega
 have ra : RA 365 0 0 (Bu (de [none, none, none, none]) (gG LL [0, 0, 0, 0])) (xA c0.sl.toNat (az.made c0 n) (de [none, none, none, none]) (gG LL [0, 0, 0, 0])) (Gm (de [none, none, none, none])) := RA.any fun v hv _ => by
  have e0 : ∀ u, u < 4 → eW c0.sl.toNat (de [none, none, none, none]) (gG LL [0, 0, 0, 0]) u ≤ 85 := fun u hu => by
   unfold eW;rw [none4 u hu];have h1 := fl u hu
   have h2 : c0.sl.toNat + 13 ≤ 17 := by omega
   have := Nat.mul_le_mul h1 h2;dsimp only;omega
  have d0 : dW c0.sl.toNat (az.made c0 n) (de [none, none, none, none]) (gG LL [0, 0, 0, 0]) v ≤ 110 := by
   unfold dW;rw [none4 v hv];have h1 := fl v hv
   have h2 : 14 + 2 * c0.sl.toNat ≤ 22 := by omega
   have := Nat.mul_le_mul h1 h2;dsimp only;omega
  unfold xA S4;have := e0 0 (by omega);have := e0 1 (by omega);have := e0 2 (by omega);have := e0 3 (by omega)
  have : v = 0 ∨ v = 1 ∨ v = 2 ∨ v = 3 := by omega
  rcases this with rfl | rfl | rfl | rfl <;> omega
 refine ⟨(rZ c0 n).1, ⟨V _ (by simp), fun o => ?_, fun o => V _ (by simp)⟩, (fun w t hw ht => by rw [none4 w hw] at ht; cases ht), (fun s hs => absurd (V (8, s, 0) (by simp)) hs), fun _ => ra, fun h => by omega⟩;rw [V _ (by simp)]
 decide
theorem LJ.ended (M : LJ c0 LL 365 2400 σ ws ats) (hl : ws.length = 4) (hal : ats.length = 4) : Wx LL ws ats := by
 have r := M.r1 (by omega);intro w hw
 have hf : Bu (de ws) (gG LL ats) w := Classical.byContradiction fun hn => by
  have := r.a1 w hw hn;omega
 obtain ⟨h1, h2⟩ := hf;refine ⟨?_, fun q hq a ha => ?_⟩
 ·rw [br (by omega)]
  unfold de at h1;rw [br (by omega)] at h1
  cases e : ws[w] with
  | none => rfl
  | some q => rw [e] at h1; cases h1
 ·unfold gG at h2
  rw [hq, ha] at h2;simp at h2;omega
end
def YD : List Nat → Nat
 | [] => 0
 | o :: _ => o + 1
def Yo (nx : Int → Option Nat) : List Nat → Prop
 | [] => True
 | o :: l => nx (o : Int) = some (YD l) ∧ Yo nx l
theorem Yo.mono {nx nx' : Int → Option Nat} : ∀ {l : List Nat}, Yo nx l → (∀ o ∈ l, nx' (o : Int) = nx (o : Int)) → Yo nx' l := by
 intro l
 induction l with
 | nil => exact fun _ _ => trivial
 | cons o l ih => exact fun h e => ⟨(e o (List.mem_cons_self ..)).trans h.1, ih h.2 fun o' ho => e o' (List.mem_cons_of_mem _ ho)⟩
def jI (t : Tk) : Prop := t.at' = 14 ∨ 21 ≤ t.at' ∧ t.at' < 25
def gW (t : Tk) : Nat := if t.at' = 13 ∨ t.at' = 14 ∨ 20 ≤ t.at' ∧ t.at' ≤ 25 then 1 else 0
def m8 (r : az × Tk × Bool) : Nat := if r.2.2 = true then 0 else gW r.2.1
def iI (tk : Nat → Option Tk) (w : Nat) : Nat := match tk w with
 | some t => gW t
 | none => 0
def cE (σ : az) (o : Nat) : Int := ((σ.obs[o]?).map fun q => q.1.flow).getD (-1)
structure TW (σ : az) (t : Tk) : Prop where
 obj : 6 ≤ t.at' ∨ t.at' = 5 ∧ t.found = true → t.obj < σ.obs.length ∧ (cE σ t.obj).tmod σ.c.sh = t.s
 rest : t.at' = 12 ∨ t.at' = 13 → aH t.w ≠ 1
 one : t.at' = 9 → aH t.w = 1
abbrev yK : Nat := 4294967296
structure WI (i : Nat) (σ : az) (tk : Nat → Option Tk) (ls : Int → List Nat) : Prop where
 so : ∀ s i, σ.μ.V (10, s, i) ≠ 0 → σ.μ.V (10, s, i) % yK < σ.obs.length ∧ (cE σ (σ.μ.V (10, s, i) % yK)).tmod σ.c.sh = s
 tw : ∀ w t, w < 4 → tk w = some t → TW σ t
 wz : ∀ o : Nat, σ.μ.V (11, (o : Int), 0) = 0 ∨ aH (σ.μ.V (11, (o : Int), 0)) = 1
 ch : ∀ s, Yo σ.nx (ls s) ∧ σ.μ.V (9, s, 0) = YD (ls s)
 nd : ∀ s, (ls s).Nodup
 mem : ∀ s o, o ∈ ls s → o < σ.obs.length ∧ σ.μ.V (11, (o : Int), 0) ≠ 0 ∧ (cE σ o).tmod σ.c.sh = s
 all : ∀ o : Nat, o < σ.obs.length → σ.μ.V (11, (o : Int), 0) ≠ 0 → o ∈ ls ((cE σ o).tmod σ.c.sh) ∨ ∃ w t, w < 4 ∧ tk w = some t ∧ jI t ∧ t.obj = o
 lk : ∀ w t, w < 4 → tk w = some t → jI t → σ.μ.V (11, (t.obj : Int), 0) ≠ 0 ∧ t.obj ∉ ls t.s ∧ (t.at' = 24 → σ.nx (t.obj : Int) = some t.top)
 lk2 : ∀ w w' t t', w < 4 → w' < 4 → w ≠ w' → tk w = some t → tk w' = some t' → jI t → jI t' → t.obj ≠ t'.obj
 fl : ∀ o, o < σ.obs.length → 0 ≤ cE σ o
 sec : ∃ b, σ.μ.V (3, 0, 0) = (b + S4 (iI tk)) * yK + b ∧ b + S4 (iI tk) ≤ i
section
variable {i : Nat} {σ : az} {tk : Nat → Option Tk} {ls ls' : Int → List Nat} {w : Nat} {t : Tk} {r : az × Tk × Bool}
theorem uJ : kF tk w r w = if r.2.2 = true then none else some r.2.1 := if_pos rfl
theorem uK {t' : Tk} (h : kF tk w r w = some t') : r.2.2 = false ∧ r.2.1 = t' := by
 rw [uJ] at h;cases hd : r.2.2
 ·rw [hd, if_neg (by simp)] at h
  exact ⟨rfl, fg h⟩
 ·rw [hd, if_pos rfl] at h; cases h
theorem QD (hw : w < 4) (ht : tk w = some t) : S4 (iI (kF tk w r)) + gW t = S4 (iI tk) + m8 r := by
 have e1 : iI (kF tk w r) w = m8 r := by
  unfold iI m8;rw [uJ]
  cases r.2.2 <;> rfl
 have e2 : iI tk w = gW t := by unfold iI; rw [ht]
 have := uT hw (f := iI tk) (f' := iI (kF tk w r)) (fun u _ hu => by unfold iI kF; rw [if_neg hu]);omega
theorem WI.gen (M : WI i σ tk ls) (hw : w < 4) (ht : tk w = some t) (hc : r.1.c = σ.c) (hob : ∀ o, cE r.1 o = cE σ o) (hol : r.1.obs.length = σ.obs.length)
 (h10 : ∀ s k, r.1.μ.V (10, s, k) = σ.μ.V (10, s, k)) (hwz : ∀ o : Nat, r.1.μ.V (11, (o : Int), 0) = 0 ∨ aH (r.1.μ.V (11, (o : Int), 0)) = 1)
 (h11 : ∀ o : Nat, σ.μ.V (11, (o : Int), 0) ≠ 0 → r.1.μ.V (11, (o : Int), 0) ≠ 0)
 (h11' : ∀ o : Nat, r.1.μ.V (11, (o : Int), 0) ≠ 0 → σ.μ.V (11, (o : Int), 0) ≠ 0 ∨ r.2.2 = false ∧ jI r.2.1 ∧ r.2.1.obj = o)
 (hch : ∀ s, Yo r.1.nx (ls' s) ∧ r.1.μ.V (9, s, 0) = YD (ls' s)) (hnd : ∀ s, (ls' s).Nodup)
 (hmem : ∀ s o, o ∈ ls' s → o ∈ ls s ∨ o = t.obj ∧ s = t.s ∧ jI t) (hsub : ∀ s o, o ∈ ls s → o ∈ ls' s)
 (hlt : jI t → (r.2.2 = false ∧ jI r.2.1 ∧ r.2.1.obj = t.obj) ∨ t.obj ∈ ls' t.s)
 (hl : r.2.2 = false → jI r.2.1 → r.1.μ.V (11, (r.2.1.obj : Int), 0) ≠ 0 ∧ r.2.1.obj ∉ ls' r.2.1.s ∧ (r.2.1.at' = 24 → r.1.nx (r.2.1.obj : Int) = some r.2.1.top) ∧ ∀ w' t', w' < 4 → w' ≠ w → tk w' = some t' → jI t' → t'.obj ≠ r.2.1.obj)
 (hlo : ∀ w' t', w' < 4 → w' ≠ w → tk w' = some t' → jI t' → t'.obj ∉ ls' t'.s ∧ r.1.nx (t'.obj : Int) = σ.nx (t'.obj : Int))
 (htk : r.2.2 = false → TW r.1 r.2.1)
 (hsec : ∀ b N, σ.μ.V (3, 0, 0) = (b + N) * yK + b → b + N ≤ i → gW t ≤ N → ∃ b', r.1.μ.V (3, 0, 0) = (b' + (N - gW t + m8 r)) * yK + b' ∧ b' + (N - gW t + m8 r) ≤ i + 1) :
 WI (i + 1) r.1 (kF tk w r) ls' := by
 have hne : ∀ {u}, u ≠ w → kF tk w r u = tk u := fun hu => if_neg hu;refine ⟨fun s k h => ?_, fun w' t' hw' j0 => ?_, hwz, hch, hnd, fun s o ho => ?_, fun o ho hv => ?_, fun w' t' hw' j0 hl' => ?_, fun w1 w2 t1 t2 h1 h2 hn e1 e2 l1 l2 => ?_, fun o ho => by rw [hob]; exact M.fl o (by rw [← hol]; exact ho), ?_⟩
 ·rw [h10] at h ⊢
  rw [hob, hol, hc];exact M.so s k h
 ·by_cases e : w' = w
  ·subst e
   obtain ⟨h1, h2⟩ := uK j0;subst h2;exact htk h1
  ·rw [hne e] at j0
   have T := M.tw w' t' hw' j0;exact ⟨fun h => by rw [hob, hol, hc]; exact T.obj h, T.rest, T.one⟩
 ·rw [hob, hol, hc]
  rcases hmem s o ho with h | ⟨h1, h2, h3⟩
  ·obtain ⟨a, b, c⟩ := M.mem s o h
   exact ⟨a, h11 o b, c⟩
  ·subst h1 h2
   have T := (M.tw w t hw ht).obj (.inl (by rcases h3 with h3 | h3 <;> omega))
   exact ⟨T.1, h11 _ (M.lk w t hw ht h3).1, T.2⟩
 ·rw [hol] at ho
  rw [hob, hc]
  rcases h11' o hv with h | ⟨h1, h2, h3⟩
  ·rcases M.all o ho h with h | ⟨w', t', a, b, c, d⟩
   ·exact .inl (hsub _ _ h)
   ·by_cases e : w' = w
    ·subst e
     rw [ht] at b;cases b
     rcases hlt c with ⟨q1, q2, q3⟩ | q
     ·exact .inr ⟨w', r.2.1, a, by rw [uJ, q1, if_neg (by simp)], q2, by rw [q3]; exact d⟩
     ·have T := (M.tw w' t hw ht).obj (.inl (by rcases c with c | c <;> omega))
      rw [d] at q T;rw [T.2];exact .inl q
    ·exact .inr ⟨w', t', a, by rw [hne e]; exact b, c, d⟩
  ·exact .inr ⟨w, r.2.1, hw, by rw [uJ, h1, if_neg (by simp)], h2, h3⟩
 ·by_cases e : w' = w
  ·subst e
   obtain ⟨h1, h2⟩ := uK j0;subst h2;obtain ⟨a, b, c, _⟩ := hl h1 hl';exact ⟨a, b, c⟩
  ·rw [hne e] at j0
   obtain ⟨a, b, c⟩ := M.lk w' t' hw' j0 hl';obtain ⟨d1, d2⟩ := hlo w' t' hw' e j0 hl';exact ⟨h11 _ a, d1, fun h => d2.trans (c h)⟩
 ·by_cases a1 : w1 = w
  ·subst a1
   obtain ⟨q1, q2⟩ := uK e1;subst q2;rw [hne (fun q => hn q.symm)] at e2;exact fun q => (hl q1 l1).2.2.2 w2 t2 h2 (fun q => hn q.symm) e2 l2 q.symm
  ·rw [hne a1] at e1
   by_cases a2 : w2 = w
   ·subst a2
    obtain ⟨q1, q2⟩ := uK e2;subst q2;exact (hl q1 l2).2.2.2 w1 t1 h1 a1 e1 l1
   ·rw [hne a2] at e2
    exact M.lk2 w1 w2 t1 t2 h1 h2 hn e1 e2 l1 l2
 ·obtain ⟨b, hb1, hb2⟩ := M.sec
  have h1 := QD (r := r) hw ht
  have h2 : gW t ≤ S4 (iI tk) := by
   have := sS (iI tk) hw
   have e : iI tk w = gW t := by unfold iI; rw [ht]
   omega
  obtain ⟨b', c1, c2⟩ := hsec b _ hb1 hb2 h2
  have e : S4 (iI (kF tk w r)) = S4 (iI tk) - gW t + m8 r := by omega
  rw [e];exact ⟨b', c1, c2⟩
theorem kj (h3 : r.1.μ.V (3, 0, 0) = σ.μ.V (3, 0, 0)) (hs : m8 r = gW t) : ∀ b N, σ.μ.V (3, 0, 0) = (b + N) * yK + b → b + N ≤ i → gW t ≤ N → ∃ b', r.1.μ.V (3, 0, 0) = (b' + (N - gW t + m8 r)) * yK + b' ∧ b' + (N - gW t + m8 r) ≤ i + 1 := fun b N h1 h2 h4 => by
 refine ⟨b, ?_, by omega⟩;rw [h3, hs, show N - gW t + gW t = N from by omega];exact h1
theorem WI.same (M : WI i σ tk ls) (hw : w < 4) (ht : tk w = some t) (hc : r.1.c = σ.c) (hob : ∀ o, cE r.1 o = cE σ o) (hol : r.1.obs.length = σ.obs.length) (h10 : ∀ s k, r.1.μ.V (10, s, k) = σ.μ.V (10, s, k)) (h11 : ∀ o : Nat, r.1.μ.V (11, (o : Int), 0) = σ.μ.V (11, (o : Int), 0))
 (h9 : ∀ s, r.1.μ.V (9, s, 0) = σ.μ.V (9, s, 0)) (hnx : r.1.nx = σ.nx) (hl : jI t → r.2.2 = false ∧ jI r.2.1) (hl2 : r.2.2 = false → jI r.2.1 → jI t ∧ r.2.1.obj = t.obj ∧ r.2.1.s = t.s ∧ r.2.1.at' ≠ 24)
 (htk : r.2.2 = false → TW σ r.2.1)
 (hsec : ∀ b N, σ.μ.V (3, 0, 0) = (b + N) * yK + b → b + N ≤ i → gW t ≤ N → ∃ b', r.1.μ.V (3, 0, 0) = (b' + (N - gW t + m8 r)) * yK + b' ∧ b' + (N - gW t + m8 r) ≤ i + 1) : WI (i + 1) r.1 (kF tk w r) ls :=
 M.gen hw ht hc hob hol h10 (fun o => by rw [h11]; exact M.wz o) (fun o h => by rw [h11]; exact h) (fun o h => .inl (by rw [← h11]; exact h)) (fun s => by rw [hnx, h9]; exact M.ch s) M.nd (fun s o h => .inl h) (fun s o h => h)
  (fun h => by
   obtain ⟨a, b⟩ := hl h;obtain ⟨_, c, _⟩ := hl2 a b
   exact .inl ⟨a, b, c⟩)
  (fun h1 h2 => by
   obtain ⟨a, b, c, d⟩ := hl2 h1 h2;obtain ⟨e, f, _⟩ := M.lk w t hw ht a;rw [b, c, h11]
   exact ⟨e, f, fun q => absurd q d, fun w' t' hw' hn j0 hl' q => M.lk2 w' w t' t hw' hw hn j0 ht hl' a q⟩)
  (fun w' t' hw' hn j0 hl' => ⟨(M.lk w' t' hw' j0 hl').2.1, by rw [hnx]⟩)
  (fun h => by
   have T := htk h
   exact ⟨fun q => by rw [hob, hol, hc]; exact T.obj q, T.rest, T.one⟩) hsec
end
section
variable {i : Nat} {σ : az} {tk : Nat → Option Tk} {ls : Int → List Nat} {w : Nat} {t t' : Tk} {r : az × Tk × Bool}
theorem sL (h : t.at' < 5 ∨ t.at' = 5 ∧ t.found = false) : TW σ t :=
 ⟨fun q => False.elim (by
  rcases h with h | ⟨h, h2⟩
  ·omega
  ·rcases q with q | ⟨_, q⟩
   ·omega
   ·rw [h2] at q; cases q), fun q => by omega, fun q => by omega⟩
theorem f6 (T : TW σ t) (h6 : 6 ≤ t.at' ∨ t.at' = 5 ∧ t.found = true) (ho : t'.obj = t.obj) (hs : t'.s = t.s) (hn : t'.at' ≠ 9 ∧ t'.at' ≠ 12 ∧ t'.at' ≠ 13) : TW σ t' :=
 ⟨fun _ => by rw [ho, hs]; exact T.obj h6, fun q => by omega, fun q => by omega⟩
theorem jz {σ' : az} (h : σ'.obs = σ.obs) : ∀ o, cE σ' o = cE σ o := fun o => by unfold cE; rw [h]
theorem Gj (o : Nat) : cE (dL σ t) o = cE σ o := by
 unfold cE dL;dsimp only;rw [List.getElem?_modify]
 split
 ·rename_i h
  subst h
  cases σ.obs[t.obj]? <;> simp
 ·cases σ.obs[o]? <;> simp
theorem MV : (dL σ t).obs.length = σ.obs.length := by unfold dL; simp
theorem cQ (M : WI i σ tk ls) (hw : w < 4) (ht : tk w = some t) (hc : r.1.c = σ.c) (hobs : r.1.obs = σ.obs) (hV : r.1.μ.V = σ.μ.V ∨ ∃ l v, r.1.μ.V = (fun z => if z = l then v else σ.μ.V z) ∧ l.1 ≠ 11 ∧ l.1 ≠ 9 ∧ l.1 ≠ 10 ∧ l.1 ≠ 3)
 (hnx : r.1.nx = σ.nx) (hl : jI t → r.2.2 = false ∧ jI r.2.1) (hl2 : r.2.2 = false → jI r.2.1 → jI t ∧ r.2.1.obj = t.obj ∧ r.2.1.s = t.s ∧ r.2.1.at' ≠ 24) (htk : r.2.2 = false → TW σ r.2.1) (hs : m8 r = gW t) : WI (i + 1) r.1 (kF tk w r) ls := by
 have key : ∀ z : bC, z.1 = 11 ∨ z.1 = 9 ∨ z.1 = 10 ∨ z.1 = 3 → r.1.μ.V z = σ.μ.V z := by
  intro z hz
  rcases hV with h | ⟨l, v, h, h1, h2, h3, h4⟩
  ·rw [h]
  ·rw [h]
   refine rD ?_;omega
 exact M.same hw ht hc (jz hobs) (by rw [hobs]) (fun s k => key _ (.inr (.inr (.inl rfl)))) (fun o => key _ (.inl rfl)) (fun s => key _ (.inr (.inl rfl))) hnx hl hl2 htk (kj (key _ (.inr (.inr (.inr rfl)))) hs)
theorem nl {P : Prop} (h : t.at' < 14 ∨ 14 < t.at' ∧ t.at' < 21 ∨ 25 ≤ t.at') : jI t → P := fun q => by rcases q with q | q <;> omega
theorem xz {P : Prop} (h : r.2.2 = false → r.2.1.at' < 14 ∨ 14 < r.2.1.at' ∧ r.2.1.at' < 21 ∨ 25 ≤ r.2.1.at') : r.2.2 = false → jI r.2.1 → P := fun hd q => by
 have := h hd
 rcases q with q | q <;> omega
theorem iK (h : t.at' < 13 ∨ 14 < t.at' ∧ t.at' < 20 ∨ 25 < t.at') : gW t = 0 := if_neg (by omega)
theorem oc (h : t.at' = 13 ∨ t.at' = 14 ∨ 20 ≤ t.at' ∧ t.at' ≤ 25) : gW t = 1 := if_pos h
theorem j7 (h : r.2.2 = false) : m8 r = gW r.2.1 := by unfold m8; rw [if_neg (by rw [h]; simp)]
theorem AL (h : r.2.2 = true) : m8 r = 0 := by unfold m8; rw [if_pos h]
theorem uN (M : WI i σ tk ls) (hw : w < 4) (ht : tk w = some t) (r : az × Tk × Bool) (a1 : Nat) (cc : Int) (hlt : t.at' < 5) (h1 : a1 < 5 ∨ (a1 = 5 ∨ a1 = 6) ∧ (aA σ t).found = true ∨ a1 = 5 ∧ (aA σ t).found = false) (hμ : r.1.μ = (bJ σ t).μ) (hob : r.1.obs = σ.obs) (hcc : r.1.c = σ.c) (hnx : r.1.nx = σ.nx) (he : r.2.1 = { aA σ t with at' := a1, code := cc }) : WI (i + 1) r.1 (kF tk w r) ls := by
 have ea : r.2.1.at' = a1 := by rw [he]
 refine cQ M hw ht hcc hob (.inl (by rw [hμ])) hnx (nl (by omega)) (xz fun _ => by omega) (fun _ => ?_) ?_
 ·rcases h1 with h | ⟨h, hf⟩ | ⟨h, hf⟩
  ·exact sL (.inl (by omega))
  ·obtain ⟨q1, q2⟩ := G3 hf
   have S := M.so t.s t.i q1
   have eo : r.2.1.obj = σ.μ.V (10, t.s, (t.i : Int)) % yK := by rw [he]; exact q2
   have es : r.2.1.s = t.s := by rw [he]; rfl
   exact ⟨fun _ => by rw [eo, es]; exact S, fun q => by omega, fun q => by omega⟩
  ·exact sL (.inr ⟨by omega, by rw [he]; exact hf⟩)
 ·rw [iK (t := t) (by omega)]
  unfold m8
  split
  ·rfl
  ·exact iK (by omega)
theorem NL (M : WI i σ tk ls) (hw : w < 4) (ht : tk w = some t) (a0 a1 af : Nat) (hat : t.at' = a0) (h9 : a0 = 9 ∧ a1 = 10 ∧ af = 7 ∨ a0 = 13 ∧ a1 = 14 ∧ af = 20) (now : Int) (c : Int) :
 WI (i + 1) (if cG σ.μ t.obj t.w (aL t.w 0) = true then ((σ.mem (σ.μ.turn t.who t.obj t.w (aL t.w 0))).note now t.who 0, ({ t with at' := a1, code := c } : Tk), false) else (σ.mem (σ.μ.turn t.who t.obj t.w (aL t.w 0)), { t with at' := af }, false)).1
  (kF tk w (if cG σ.μ t.obj t.w (aL t.w 0) = true then ((σ.mem (σ.μ.turn t.who t.obj t.w (aL t.w 0))).note now t.who 0, ({ t with at' := a1, code := c } : Tk), false) else (σ.mem (σ.μ.turn t.who t.obj t.w (aL t.w 0)), { t with at' := af }, false))) ls := by
 have T := M.tw w t hw ht;have To := T.obj (.inl (by omega))
 by_cases hv : σ.μ.V (11, (t.obj : Int), 0) = t.w ∧ (aL t.w 0).isSome = true
 ·obtain ⟨hv, hs⟩ := hv
  obtain ⟨m, em⟩ := Option.isSome_iff_exists.1 hs;obtain ⟨m1, m2, m3, m4⟩ := KF em;rw [em, sK, if_pos (ia hv)];obtain ⟨r, hr⟩ : ∃ r : az × Tk × Bool, r = ((σ.mem (σ.μ.turn t.who t.obj t.w (some m))).note now t.who 0, { t with at' := a1, code := c }, false) := ⟨_, rfl⟩;rw [← hr]
  have hV : ∀ z, r.1.μ.V z = if z = (11, (t.obj : Int), 0) then m else σ.μ.V z := fun z => by
   rw [hr];show (σ.μ.swp t.who (11, (t.obj : Int), 0) t.w m).V z = _;rw [jD, if_pos hv]
  have r3 : r.2.2 = false := by rw [hr]
  have ra : r.2.1.at' = a1 := by rw [hr]
  have ro : r.2.1.obj = t.obj := by rw [hr]
  have rs : r.2.1.s = t.s := by rw [hr]
  have rob : r.1.obs = σ.obs := by rw [hr]
  have rnx : r.1.nx = σ.nx := by rw [hr]
  have rc : r.1.c = σ.c := by rw [hr]
  have V11 : ∀ o : Nat, r.1.μ.V (11, (o : Int), 0) = if o = t.obj then m else σ.μ.V (11, (o : Int), 0) := fun o => by
   rw [hV]
   by_cases e : o = t.obj
   ·rw [if_pos (by rw [e]), if_pos e]
   ·rw [if_neg (fun h => e (by injection h with _ h; injection h with h _; omega)), if_neg e]
  have mz : m ≠ 0 := fun e => by rw [e] at m4; revert m4; decide
  have V9 : ∀ s, r.1.μ.V (9, s, 0) = σ.μ.V (9, s, 0) := fun s => by rw [hV]; exact if_neg (by simp)
  have V10 : ∀ s k, r.1.μ.V (10, s, k) = σ.μ.V (10, s, k) := fun s k => by rw [hV]; exact if_neg (by simp)
  have V3 : r.1.μ.V (3, 0, 0) = σ.μ.V (3, 0, 0) := by rw [hV]; exact if_neg (by simp)
  have nw : a0 = 13 → σ.μ.V (11, (t.obj : Int), 0) = 0 := fun e => by
   have := T.rest (.inr (by omega));rw [← hv] at this
   rcases M.wz t.obj with h | h
   ·exact h
   ·exact absurd h this
  have ow : a0 = 9 → σ.μ.V (11, (t.obj : Int), 0) ≠ 0 := fun e h => by
   have := T.one (by omega);rw [← hv, h] at this
   revert this
   decide
  refine M.gen hw ht rc (jz rob) (by rw [rob]) V10 (fun o => ?_) (fun o h => ?_) (fun o h => ?_) (fun s => by rw [rnx, V9]; exact M.ch s) M.nd (fun s o h => .inl h) (fun s o h => h) (nl (by omega)) (fun _ h => ?_) (fun w' t' hw' hn j0 hl' => ⟨(M.lk w' t' hw' j0 hl').2.1, by rw [rnx]⟩) (fun _ => ?_) (kj V3 ?_)
  ·rw [V11]
   split
   ·exact .inr m4
   ·exact M.wz o
  ·rw [V11]
   split
   ·exact mz
   ·exact h
  ·rw [V11] at h
   by_cases e : o = t.obj
   ·rcases h9 with ⟨h1, h2, _⟩ | ⟨h1, h2, _⟩
    ·exact .inl (by rw [e]; exact ow h1)
    ·exact .inr ⟨r3, .inl (by omega), by rw [ro, e]⟩
   ·rw [if_neg e] at h
    exact .inl h
  ·have e13 : a0 = 13 := by
    rcases h9 with ⟨h1, h2, _⟩ | ⟨h1, h2, _⟩
    ·rcases h with h | h <;> omega
    ·exact h1
   have hz := nw e13;rw [ro, rs];refine ⟨by rw [V11, if_pos rfl]; exact mz, fun q => (M.mem _ _ q).2.1 hz, fun q => by omega, fun w' t' hw' hn j0 hl' q => ?_⟩;have := (M.lk w' t' hw' j0 hl').1;rw [q] at this;exact this hz
  ·exact ⟨fun _ => by rw [ro, rs, rob, rc, jz rob]; exact To, fun q => by omega, fun q => by omega⟩
  ·rw [j7 r3]
   rcases h9 with ⟨h1, h2, _⟩ | ⟨h1, h2, _⟩
   ·rw [iK (t := t) (by omega), iK (by omega)]
   ·rw [oc (t := t) (by omega), oc (by omega)]
 ·have hf : cG σ.μ t.obj t.w (aL t.w 0) = false := by
   unfold cG
   by_cases h : σ.μ.V (11, (t.obj : Int), 0) = t.w
   ·have : (aL t.w 0).isSome = false := by
     cases e : (aL t.w 0).isSome
     ·rfl
     ·exact absurd ⟨h, e⟩ hv
    rw [this]; rfl
   ·rw [hZ h, Bool.and_false]
  rw [hf, if_neg (by simp)]
  have V : (σ.μ.turn t.who t.obj t.w (aL t.w 0)).V = σ.μ.V := by
   cases e : aL t.w 0 with
   | none => rfl
   | some m =>
    show (σ.μ.swp t.who (11, (t.obj : Int), 0) t.w m).V = _;rw [jD, if_neg (fun h => hv ⟨h, by rw [e]; rfl⟩)]
  refine cQ M hw ht rfl rfl (.inl V) rfl (nl (by omega)) (xz fun _ => by dsimp only; omega) (fun _ => f6 T (.inl (by omega)) rfl rfl (by dsimp only; omega)) ?_;rw [j7 rfl]
  rcases h9 with ⟨h1, _, h2⟩ | ⟨h1, _, h2⟩
  ·rw [iK (t := t) (by omega), iK (by dsimp only; omega)]
  ·rw [oc (t := t) (by omega), oc (by dsimp only; omega)]
theorem C6 {μ : Mu} {who : Int} {m : Nat} {z : bC} (h : z.1 ≠ 3) : (μ.cnt who (3, 0, 0) m).V z = μ.V z := rD h
theorem VC (K : eG σ t) (hi : i < 100000) (M : WI i σ tk ls) (hw : w < 4) (ht : tk w = some t) (now : Int) : ∃ ls', WI (i + 1) (ah σ t now).1 (kF tk w (ah σ t now)) ls' := by
 have T := M.tw w t hw ht
 have z : ∀ {r : az × Tk × Bool}, r.2.2 = true → gW t = 0 → m8 r = gW t := fun h h2 => by rw [h2]; exact AL h
 have g : ∀ {r : az × Tk × Bool} (a b : Nat), t.at' = a → r.2.2 = false → r.2.1.at' = b → (a < 13 ∨ 14 < a ∧ a < 20) → (b < 13 ∨ 14 < b ∧ b < 20) → m8 r = gW t := fun a b ha h1 h2 h3 h4 => by rw [j7 h1, iK (t := t) (by omega), iK (by omega)]
 have g1 : ∀ {r : az × Tk × Bool} (a b : Nat), t.at' = a → r.2.2 = false → r.2.1.at' = b → (a = 13 ∨ a = 14 ∨ 20 ≤ a ∧ a ≤ 25) → (b = 13 ∨ b = 14 ∨ 20 ≤ b ∧ b ≤ 25) → m8 r = gW t := fun a b ha h1 h2 h3 h4 => by rw [j7 h1, oc (t := t) (by omega), oc (by omega)]
 unfold ah;dsimp only
 split
 ·rename_i hat
  split
  ·exact ⟨ls, cQ M hw ht rfl rfl (.inl rfl) rfl (nl (by omega)) (xz fun h => by cases h) (fun h => by cases h) (z rfl (iK (by omega)))⟩
  ·refine ⟨ls, uN M hw ht _ (if (aA σ t).found = true then 6 else if cz σ (aA σ t) = true then 3 else 2) t.code (by omega) ?_ rfl rfl rfl rfl rfl⟩
   cases hf : (aA σ t).found
   ·left; simp only [Bool.false_eq_true, if_false]; split <;> omega
   ·exact .inr (.inl ⟨.inr (by simp), rfl⟩)
 ·rename_i hat
  refine ⟨ls, uN M hw ht _ (if (aA σ t).found = true then 6 else if cz σ (aA σ t) = true then 3 else 2) t.code (by omega) ?_ rfl rfl rfl rfl rfl⟩;cases hf : (aA σ t).found
  ·left; simp only [Bool.false_eq_true, if_false]; split <;> omega
  ·exact .inr (.inl ⟨.inr (by simp), rfl⟩)
 ·rename_i hat
  have hV : (σ.μ.swp t.who (8, t.s, 0) 0 1).V = σ.μ.V ∨ ∃ l v, (σ.μ.swp t.who (8, t.s, 0) 0 1).V = (fun z => if z = l then v else σ.μ.V z) ∧ l.1 ≠ 11 ∧ l.1 ≠ 9 ∧ l.1 ≠ 10 ∧ l.1 ≠ 3 := by
   rw [jD]
   split
   ·exact .inr ⟨(8, t.s, 0), 1, rfl, by simp, by simp, by simp, by simp⟩
   ·exact .inl rfl
  by_cases h0 : σ.μ.V (8, t.s, 0) = 0
  ·rw [if_pos h0]
   exact ⟨ls, cQ M hw ht rfl rfl hV rfl (nl (by omega)) (xz fun _ => by simp) (fun _ => sL (.inl (by simp))) (g 3 4 hat rfl rfl (by omega) (by omega))⟩
  ·rw [if_neg h0]
   exact ⟨ls, cQ M hw ht rfl rfl hV rfl (nl (by omega)) (xz fun _ => by show t.at' < 14 ∨ _; omega) (fun _ => sL (t := t) (.inl (by omega))) (g 3 3 hat rfl hat (by omega) (by omega))⟩
 ·rename_i hat
  split
  ·rename_i hf
   exact ⟨ls, uN M hw ht _ 5 t.code (by omega) (.inr (.inl ⟨.inl rfl, hf⟩)) rfl rfl rfl rfl rfl⟩
  ·rename_i hf
   split
   ·exact ⟨ls, uN M hw ht _ 5 5 (by omega) (.inr (.inr ⟨rfl, by simpa using hf⟩)) rfl rfl rfl rfl rfl⟩
   ·exact ⟨ls, uN M hw ht _ 4 t.code (by omega) (.inl (by omega)) rfl rfl rfl rfl (by rw [show (aA σ t) = { aA σ t with at' := (aA σ t).at', code := (aA σ t).code } from rfl, show (aA σ t).at' = 4 from hat]; rfl)⟩
 ·rename_i hat
  have hV : ((σ.μ.acc t.who 2 (8, t.s, 0)).put (8, t.s, 0) 0).V = σ.μ.V ∨ ∃ l v, ((σ.μ.acc t.who 2 (8, t.s, 0)).put (8, t.s, 0) 0).V = (fun z => if z = l then v else σ.μ.V z) ∧ l.1 ≠ 11 ∧ l.1 ≠ 9 ∧ l.1 ≠ 10 ∧ l.1 ≠ 3 := .inr ⟨(8, t.s, 0), 0, rfl, by simp, by simp, by simp, by simp⟩;cases hf : t.found
  ·exact ⟨ls, cQ M hw ht rfl rfl hV rfl (nl (by omega)) (xz fun h => by cases h) (fun h => by cases h) (z rfl (iK (by omega)))⟩
  ·exact ⟨ls, cQ M hw ht rfl rfl hV rfl (nl (by omega)) (xz fun _ => by simp) (fun _ => f6 T (.inr ⟨hat, hf⟩) rfl rfl (by simp)) (g 5 6 hat rfl rfl (by omega) (by omega))⟩
 ·rename_i hat
  exact ⟨ls, cQ M hw ht rfl rfl (.inl rfl) rfl (nl (by omega)) (xz fun _ => by simp) (fun _ => f6 T (.inl (by omega)) rfl rfl (by simp)) (g 6 7 hat rfl rfl (by omega) (by omega))⟩
 ·rename_i hat
  by_cases h2 : aH (σ.μ.V (11, (t.obj : Int), 0)) = 2
  ·rw [if_pos h2]
   exact ⟨ls, cQ M hw ht rfl rfl (.inl rfl) rfl (nl (by omega)) (xz fun _ => by simp) (fun _ => sL (.inl (by simp))) (g 7 3 hat rfl rfl (by omega) (by omega))⟩
  ·rw [if_neg h2]
   exact ⟨ls, cQ M hw ht rfl rfl (.inl rfl) rfl (nl (by omega)) (xz fun _ => by simp) (fun _ => f6 T (.inl (by omega)) rfl rfl (by simp)) (g 7 8 hat rfl rfl (by omega) (by omega))⟩
 ·rename_i hat
  by_cases hfu : fU σ t = true
  ·rw [if_pos hfu]
   exact ⟨ls, cQ M hw ht rfl rfl (.inl rfl) rfl (nl (by omega)) (xz fun _ => by simp) (fun _ => f6 T (.inl (by omega)) rfl rfl (by simp)) (g 8 15 hat rfl rfl (by omega) (by omega))⟩
  ·rw [if_neg hfu]
   by_cases h1 : aH t.w = 1
   ·rw [if_pos h1]
    exact ⟨ls, cQ M hw ht rfl rfl (.inl rfl) rfl (nl (by omega)) (xz fun _ => by simp) (fun _ => ⟨fun _ => T.obj (.inl (by omega)), fun q => by simp at q, fun _ => h1⟩) (g 8 9 hat rfl rfl (by omega) (by omega))⟩
   ·rw [if_neg h1]
    exact ⟨ls, cQ M hw ht rfl rfl (.inl rfl) rfl (nl (by omega)) (xz fun _ => by simp) (fun _ => ⟨fun _ => T.obj (.inl (by omega)), fun _ => h1, fun q => by simp at q⟩) (g 8 12 hat rfl rfl (by omega) (by omega))⟩
 ·rename_i hat
  exact ⟨ls, NL M hw ht 9 10 7 hat (.inl ⟨rfl, rfl, rfl⟩) now 0⟩
 ·rename_i hat
  exact ⟨ls, M.same (r := (dL σ t, { t with at' := 11 }, false)) hw ht rfl Gj MV (fun _ _ => rfl) (fun _ => rfl) (fun _ => rfl) rfl (nl (by omega)) (xz fun _ => by simp) (fun _ => f6 T (.inl (by omega)) rfl rfl (by simp)) (kj rfl (g 10 11 hat rfl rfl (by omega) (by omega)))⟩
 ·rename_i hat
  exact ⟨ls, cQ M hw ht rfl rfl (.inr ⟨_, _, rfl, by simp, by simp, by simp, by simp⟩) rfl (nl (by omega)) (xz fun h => by cases h) (fun h => by cases h) (z rfl (iK (by omega)))⟩
 ·rename_i hat
  refine ⟨ls, M.same (r := (σ.mem (σ.μ.cnt t.who (3, 0, 0) 4294967296), { t with at' := 13 }, false)) hw ht rfl (jz rfl) rfl (fun s k => C6 (z := (10, s, k)) (by simp)) (fun o => C6 (z := (11, (o : Int), 0)) (by simp)) (fun s => C6 (z := (9, s, 0)) (by simp)) rfl (nl (by omega)) (xz fun _ => by simp) (fun _ => ⟨fun _ => T.obj (.inl (by omega)), fun _ => T.rest (.inl hat), fun q => by simp at q⟩) (fun b N h1 h2 h3 => ⟨b, ?_, ?_⟩)⟩
  ·rw [j7 rfl, iK (t := t) (by omega), oc (t := { t with at' := 13 }) (by simp)]
   show (if ((3 : Int), (0 : Int), (0 : Int)) = (3, 0, 0) then (σ.μ.V (3, 0, 0) + 4294967296) % 18446744073709551616 else σ.μ.V (3, 0, 0)) = _;rw [if_pos rfl, h1];simp only [yK];omega
  ·rw [j7 rfl, iK (t := t) (by omega), oc (t := { t with at' := 13 }) (by simp)]
   omega
 ·rename_i hat
  exact ⟨ls, NL M hw ht 13 14 20 hat (.inr ⟨rfl, rfl, rfl⟩) now 0⟩
 ·rename_i hat
  exact ⟨ls, M.same (r := (dL σ t, { t with at' := 21 }, false)) hw ht rfl Gj MV (fun _ _ => rfl) (fun _ => rfl) (fun _ => rfl) rfl (fun _ => ⟨rfl, .inr (by simp)⟩) (fun _ _ => ⟨.inl hat, rfl, rfl, by simp⟩) (fun _ => f6 T (.inl (by omega)) rfl rfl (by simp)) (kj rfl (g1 14 21 hat rfl rfl (by omega) (by omega)))⟩
 ·rename_i hat
  refine ⟨ls, cQ M hw ht rfl rfl (.inl rfl) rfl (nl (by omega)) (xz fun _ => ?_) (fun _ => f6 T (.inl (by omega)) rfl rfl ?_) ?_⟩
  ·dsimp only; split <;> omega
  ·dsimp only; split <;> omega
  ·rw [j7 rfl, iK (t := t) (by omega), iK (by dsimp only; split <;> omega)]
 ·rename_i hat
  by_cases h2 : aH (σ.μ.V (11, (t.obj : Int), 0)) = 2
  ·rw [if_pos h2]
   exact ⟨ls, cQ M hw ht rfl rfl (.inl rfl) rfl (nl (by omega)) (xz fun _ => by simp) (fun _ => sL (.inl (by simp))) (g 16 3 hat rfl rfl (by omega) (by omega))⟩
  ·rw [if_neg h2]
   exact ⟨ls, cQ M hw ht rfl rfl (.inl rfl) rfl (nl (by omega)) (xz fun _ => by simp) (fun _ => f6 T (.inl (by omega)) rfl rfl (by simp)) (g 16 17 hat rfl rfl (by omega) (by omega))⟩
 ·rename_i hat
  by_cases hfu : fU σ t = true
  ·rw [if_pos hfu]
   exact ⟨ls, cQ M hw ht rfl rfl (.inl rfl) rfl (nl (by omega)) (xz fun _ => by simp) (fun _ => f6 T (.inl (by omega)) rfl rfl (by simp)) (g 17 18 hat rfl rfl (by omega) (by omega))⟩
  ·rw [if_neg hfu]
   exact ⟨ls, cQ M hw ht rfl rfl (.inl rfl) rfl (nl (by omega)) (xz fun _ => by simp) (fun _ => f6 T (.inl (by omega)) rfl rfl (by simp)) (g 17 7 hat rfl rfl (by omega) (by omega))⟩
 ·rename_i hat
  split
  ·exact ⟨ls, cQ M hw ht rfl rfl (.inl rfl) rfl (nl (by omega)) (xz fun h => by cases h) (fun h => by cases h) (z rfl (iK (by omega)))⟩
  ·exact ⟨ls, cQ M hw ht rfl rfl (.inl rfl) rfl (nl (by omega)) (xz fun _ => by simp) (fun _ => f6 T (.inl (by omega)) rfl rfl (by simp)) (g 18 7 hat rfl rfl (by omega) (by omega))⟩
 ·rename_i hat
  refine ⟨ls, M.same (r := (σ.mem (σ.μ.cnt t.who (3, 0, 0) 1), { t with at' := 7 }, false)) hw ht rfl (jz rfl) rfl (fun s k => C6 (z := (10, s, k)) (by simp)) (fun o => C6 (z := (11, (o : Int), 0)) (by simp)) (fun s => C6 (z := (9, s, 0)) (by simp)) rfl (nl (by omega)) (xz fun _ => by simp) (fun _ => f6 T (.inl (by omega)) rfl rfl (by simp)) (fun b N h1 h2 h3 => ⟨b + 1, ?_, ?_⟩)⟩
  ·have e1 : gW t = 1 := oc (by omega)
   rw [j7 rfl, e1, iK (t := { t with at' := 7 }) (by simp)];rw [e1] at h3;show (if ((3 : Int), (0 : Int), (0 : Int)) = (3, 0, 0) then (σ.μ.V (3, 0, 0) + 1) % 18446744073709551616 else σ.μ.V (3, 0, 0)) = _;rw [if_pos rfl, h1];simp only [yK];omega
  ·have e1 : gW t = 1 := oc (by omega)
   rw [j7 rfl, e1, iK (t := { t with at' := 7 }) (by simp)];omega
 ·rename_i hat
  exact ⟨ls, cQ M hw ht rfl rfl (.inr ⟨_, _, rfl, by simp, by simp, by simp, by simp⟩) rfl (fun _ => ⟨rfl, .inr (by simp)⟩) (fun _ _ => ⟨.inr (by omega), rfl, rfl, by simp⟩) (fun _ => f6 T (.inl (by omega)) rfl rfl (by simp)) (g1 21 22 hat rfl rfl (by omega) (by omega))⟩
 ·rename_i hat
  exact ⟨ls, cQ M hw ht rfl rfl (.inl rfl) rfl (fun _ => ⟨rfl, .inr (by simp)⟩) (fun _ _ => ⟨.inr (by omega), rfl, rfl, by simp⟩) (fun _ => f6 T (.inl (by omega)) rfl rfl (by simp)) (g1 22 23 hat rfl rfl (by omega) (by omega))⟩
 ·rename_i hat
  have hl : jI t := .inr (by omega);have To := T.obj (.inl (by omega));obtain ⟨k1, k2, k3⟩ := M.lk w t hw ht hl
  have nin : ∀ s, t.obj ∉ ls s := fun s q => by
   have := (M.mem s _ q).2.2;rw [To.2] at this;subst this;exact k2 q
  refine ⟨ls, M.gen (r := ({ σ with μ := σ.μ.acc t.who 6 (14, (t.obj : Int), 0), nx := fun k => if k = (t.obj : Int) then some t.top else σ.nx k }, { t with at' := 24 }, false)) hw ht rfl (jz rfl) rfl (fun _ _ => rfl) M.wz (fun _ h => h) (fun _ h => .inl h) (fun s => ⟨(M.ch s).1.mono fun o ho => if_neg fun e => ?_, (M.ch s).2⟩) M.nd (fun _ _ h => .inl h) (fun _ _ h => h) (fun _ => .inl ⟨rfl, .inr (by simp), rfl⟩)
   (fun _ _ => ⟨k1, k2, fun _ => if_pos rfl, fun w' t' hw' hn j0 hl' => M.lk2 w' w t' t hw' hw hn j0 ht hl' hl⟩) (fun w' t' hw' hn j0 hl' => ⟨(M.lk w' t' hw' j0 hl').2.1, if_neg fun e => M.lk2 w' w t' t hw' hw hn j0 ht hl' hl (by omega)⟩) (fun _ => ⟨fun _ => To, fun q => by simp at q, fun q => by simp at q⟩) (kj rfl (g1 23 24 hat rfl rfl (by omega) (by omega)))⟩
  have : o = t.obj := by omega
  subst this;exact nin s ho
 ·rename_i hat
  have hl : jI t := .inr (by omega);have To := T.obj (.inl (by omega));obtain ⟨k1, k2, k3⟩ := M.lk w t hw ht hl
  by_cases h0 : σ.μ.V (9, t.s, 0) = t.top
  ·rw [if_pos h0]
   obtain ⟨r, hr⟩ : ∃ r : az × Tk × Bool, r = (σ.mem (σ.μ.swp t.who (9, t.s, 0) t.top (t.obj + 1)), { t with at' := 25 }, false) := ⟨_, rfl⟩;rw [← hr]
   have hV : ∀ z, r.1.μ.V z = if z = (9, t.s, 0) then t.obj + 1 else σ.μ.V z := fun z => by
    rw [hr];show (σ.μ.swp t.who (9, t.s, 0) t.top (t.obj + 1)).V z = _;rw [jD, if_pos h0]
   have r3 : r.2.2 = false := by rw [hr]
   have ra : r.2.1.at' = 25 := by rw [hr]
   have rob : r.1.obs = σ.obs := by rw [hr]
   have rnx : r.1.nx = σ.nx := by rw [hr]
   have V11 : ∀ o : Nat, r.1.μ.V (11, (o : Int), 0) = σ.μ.V (11, (o : Int), 0) := fun o => by rw [hV]; exact if_neg (by simp)
   obtain ⟨lt, hlt⟩ : ∃ lt : Int → List Nat, lt = fun s => if s = t.s then t.obj :: ls s else ls s := ⟨_, rfl⟩
   have lts : lt t.s = t.obj :: ls t.s := by rw [hlt]; exact if_pos rfl
   have ltn : ∀ s, s ≠ t.s → lt s = ls s := fun s h => by rw [hlt]; exact if_neg h
   refine ⟨lt, M.gen hw ht (by rw [hr]) (jz rob) (by rw [rob]) (fun s k => by rw [hV]; exact if_neg (by simp)) (fun o => by rw [V11]; exact M.wz o) (fun o h => by rw [V11]; exact h) (fun o h => .inl (by rw [← V11]; exact h)) (fun s => ?_) (fun s => ?_) (fun s o h => ?_) (fun s o h => ?_) (fun _ => .inr (by rw [lts]; exact List.mem_cons_self ..)) (fun _ q => by rcases q with q | q <;> omega) (fun w' t' hw' hn j0 hl' => ⟨?_, by rw [rnx]⟩) (fun _ => ?_) (kj (by rw [hV]; exact if_neg (by simp)) (g1 24 25 hat r3 ra (by omega) (by omega)))⟩
   ·by_cases e : s = t.s
    ·subst e
     rw [lts, rnx, hV, if_pos rfl];exact ⟨⟨by rw [k3 hat, ← h0, (M.ch _).2], (M.ch _).1⟩, rfl⟩
    ·rw [ltn s e, rnx, hV, if_neg (fun h => e (by injection h with _ h; injection h))]
     exact M.ch s
   ·by_cases e : s = t.s
    ·subst e
     rw [lts];exact List.nodup_cons.2 ⟨k2, M.nd _⟩
    ·rw [ltn s e]; exact M.nd s
   ·by_cases e : s = t.s
    ·subst e
     rw [lts] at h
     rcases Jl.1 h with h | h
     ·exact .inr ⟨h, rfl, hl⟩
     ·exact .inl h
    ·rw [ltn s e] at h; exact .inl h
   ·by_cases e : s = t.s
    ·subst e
     rw [lts];exact List.mem_cons_of_mem _ h
    ·rw [ltn s e]; exact h
   ·have hne := M.lk2 w' w t' t hw' hw hn j0 ht hl' hl
    have := (M.lk w' t' hw' j0 hl').2.1
    by_cases e : t'.s = t.s
    ·rw [e, lts]
     rw [e] at this
     exact fun q => by
      rcases Jl.1 q with q | q
      ·exact hne q
      ·exact this q
    ·rw [ltn _ e]; exact this
   ·exact ⟨fun _ => by rw [hr]; exact To, fun q => by omega, fun q => by omega⟩
  ·rw [if_neg h0]
   refine ⟨ls, cQ M hw ht rfl rfl (.inl ?_) rfl (fun _ => ⟨rfl, .inr (by simp)⟩) (fun _ _ => ⟨hl, rfl, rfl, by simp⟩) (fun _ => f6 T (.inl (by omega)) rfl rfl (by simp)) (g1 24 22 hat rfl rfl (by omega) (by omega))⟩;show (σ.μ.swp t.who (9, t.s, 0) t.top (t.obj + 1)).V = _;rw [jD, if_neg h0]
 ·have hat : t.at' = 25 := by
   have := K.ats
   have q0 : t.at' ≠ 0 := by assumption
   have q2 : t.at' ≠ 2 := by assumption
   have q3 : t.at' ≠ 3 := by assumption
   have q4 : t.at' ≠ 4 := by assumption
   have q5 : t.at' ≠ 5 := by assumption
   have q6 : t.at' ≠ 6 := by assumption
   have q7 : t.at' ≠ 7 := by assumption
   have q8 : t.at' ≠ 8 := by assumption
   have q9 : t.at' ≠ 9 := by assumption
   have q10 : t.at' ≠ 10 := by assumption
   have q11 : t.at' ≠ 11 := by assumption
   have q12 : t.at' ≠ 12 := by assumption
   have q13 : t.at' ≠ 13 := by assumption
   have q14 : t.at' ≠ 14 := by assumption
   have q15 : t.at' ≠ 15 := by assumption
   have q16 : t.at' ≠ 16 := by assumption
   have q17 : t.at' ≠ 17 := by assumption
   have q18 : t.at' ≠ 18 := by assumption
   have q20 : t.at' ≠ 20 := by assumption
   have q21 : t.at' ≠ 21 := by assumption
   have q22 : t.at' ≠ 22 := by assumption
   have q23 : t.at' ≠ 23 := by assumption
   have q24 : t.at' ≠ 24 := by assumption
   omega
  refine ⟨ls, M.same (r := (σ.mem (σ.μ.cnt t.who (3, 0, 0) 1), t, true)) hw ht rfl (jz rfl) rfl (fun s k => C6 (z := (10, s, k)) (by simp)) (fun o => C6 (z := (11, (o : Int), 0)) (by simp)) (fun s => C6 (z := (9, s, 0)) (by simp)) rfl (nl (by omega)) (xz fun h => by cases h) (fun h => by cases h) (fun b N h1 h2 h3 => ⟨b + 1, ?_, ?_⟩)⟩
  ·have e1 : gW t = 1 := oc (by omega)
   rw [AL rfl, e1];rw [e1] at h3;show (if ((3 : Int), (0 : Int), (0 : Int)) = (3, 0, 0) then (σ.μ.V (3, 0, 0) + 1) % 18446744073709551616 else σ.μ.V (3, 0, 0)) = _;rw [if_pos rfl, h1];simp only [yK];omega
  ·have e1 : gW t = 1 := oc (by omega)
   rw [AL rfl, e1];omega
end
theorem xr (x0 x1 x2 x3 : Value) (H : AH) {r : Value × AH} (h : (
 aV (Value.cells x2).toList H fun v0 H1 =>
 (aB 3 v0 H1).bind fun v2 =>
 (FF fu [x0, x1, v2, x3] H1).bind fun r3 =>
 some (r3.1, r3.2)) = some r) : FF kX [x0, x1, x2, x3] H = some r :=
 fo Tryz.func74 (by kernel_rfl) h
section
variable (m i rp : Nat) (cs : List Pk) (μ : Mu)
end
theorem JT {p : Nat} {g : PIds} {σ : az} (hl : g.rp.length = σ.obs.length) : Sp gP [vp p] (aI p g σ) (fun _ : Unit => vi σ.obs.length) (fun _ => aI p g σ) := by
 have hz : ((σ.obs.map fun x => x.1).zip g.rp).length = σ.obs.length := by simp [hl]
 refine aY (qQ _) fun R H h => ?_;have h2 := h;unfold aI at h2;refine aq h2 ae rfl ?_;refine ja (enc := zl) (l := (σ.obs.map fun x : Ob × List Pk => x.1).zip g.rp) h2 ?_;rw [hz];exact ap ⟨(), rfl, h⟩
theorem Zt (m : Nat) (μ : Mu) (who : Int) (at' : bC) (hE : μ.N < 1099511627776) : Sp kX [vp m, vi who, dl at', vw 0] (a8 m μ) (fun _ : Unit => vu (μ.V at')) (fun _ => a8 m ((μ.acc who 3 at').put at' 0)) := by
 refine aY (xr _ _ _ _) fun R H h => ?_;refine aZ (l := [vi at'.1, vi at'.2.1, vi at'.2.2]) h fun b H1 h1 => ?_;refine aU h1 ?_;refine ag h1 (Ae m μ who at' 0 (by omega)) fun _ H2 h2 => ?_;exact ap ⟨(), rfl, (gn (N' := μ.N + 2) (by simp) (show ac (a8 m ((μ.log who 3 at').put at' 0) * R) H2 from h2.to))⟩
section
variable {ib m nm : Nat} {c : eR} {nx : Int → Option Nat} {μ : Mu} {who : Int}
theorem PK (hE : μ.N < 1099511627000) : Sp io [vp ib, vi who] (fZ ib m nm c nx * a8 m μ) (fun _ : Unit => vu (μ.V (3, 0, 0))) (fun _ => fZ ib m nm c nx * a8 m (μ.acc who 1 (3, 0, 0))) := by
 refine aY (rQ _ _) fun R H h => ?_;unfold fZ at h ⊢;refine bg ae ?_;refine aN h rfl ?_;refine ag h (lQ 3 0) fun _ H1 h1 => ?_;refine aG h1 h (by rfl) ?_;refine ag h1 (vI m μ who (3, 0, 0) (by omega)) fun _ H2 h2 => ?_;exact ap ⟨(), rfl, h2.to⟩
theorem Je (s : Int) (hE : μ.N < 1099511627000) : Sp gJ [vp ib, vi who, vi s] (fZ ib m nm c nx * a8 m μ) (fun _ : Unit => vu (μ.V (9, s, 0))) (fun _ => fZ ib m nm c nx * a8 m ((μ.acc who 3 (9, s, 0)).put (9, s, 0) 0)) := by
 refine aY (qA _ _ _) fun R H h => ?_;unfold fZ at h ⊢;refine bg ae ?_;refine aN h rfl ?_;refine aq h ae rfl ?_;refine aj (show (b6 (.func (.func aS) #[vi 9] #[]) [vi s]).bind _ = _ from rfl) ?_;refine ag h (lQ 9 s) fun _ H1 h1 => ?_;refine aG h1 h (by rfl) ?_;refine ag h1 (Zt m μ who (9, s, 0) (by omega)) fun _ H2 h2 => ?_;exact ap ⟨(), rfl, h2.to⟩
theorem Jh (o : Int) (hE : μ.N < 1099511627000) : Sp gL [vp ib, vi who, vi o] (fZ ib m nm c nx * a8 m μ) (fun _ : Unit => vu ((nx o).getD 0)) (fun _ => fZ ib m nm c nx * a8 m (μ.acc who 5 (14, o, 0))) := by
 refine aY (qC _ _ _) fun R H h => ?_;unfold fZ at h ⊢;refine bg ae ?_;refine aN h rfl ?_;refine aq h ae rfl ?_;refine aj (show (b6 (.func (.func aS) #[vi 14] #[]) [vi o]).bind _ = _ from rfl) ?_;refine ag h (lQ 14 o) fun _ H1 h1 => ?_;refine aG h1 h (by rfl) ?_;refine ag h1 ((Ad m μ who (14, o, 0) (by omega)).imp fun _ R H h => gn (N' := μ.N + 2) (by simp) h) fun _ H2 h2 => ?_;refine aq h2 ae rfl ?_;refine Fl (ek := FX) o h2 ?_;refine ap ⟨(), ?_, h2.to⟩
 cases nx o <;> rfl
end
theorem U0 (s : Nat) (hs : s < 18446744073709551616) : Sp se [vu s] emp (fun _ : Unit => vb (s / yK == s % yK)) (fun _ => emp) := by
 refine aY (GS _) fun R H h => ?_;refine aa (uW (b := 4294967296) (by omega) hs) ?_;refine aa (g7 (b := 4294967296) (by omega)) ?_;refine aa (Sb) ?_;exact ap ⟨(), rfl, h⟩
section
variable {p : Nat} {g : PIds} {σ : az}
theorem JS (hl : g.rp.length = σ.obs.length) (who : Int) (o : Nat) (ho : o < σ.obs.length) (hN : σ.μ.N < 800000) : Sp dq [vp p, vi who, vi o] (aI p g σ) (fun _ : Unit => .agg (#[vi (σ.obs[o]).1.flow, vi (σ.obs[o]).1.most, vu (σ.obs[o]).1.r] : Array Value)) (fun _ => aI p g (σ.mem (σ.μ.acc who 5 (13, (o : Int), 0)))) := by
 have hz : ((σ.obs.map fun x => x.1).zip g.rp).length = σ.obs.length := by simp [hl]
 refine aY (lm _ _ _) fun R H h => ?_;refine bj h fun b H1 h1 => ?_;refine ag h1 (py p g σ hl o ho) fun _ H2 h2 => ?_;refine gs ?_;rw [Bool.not_true];refine gs ?_;refine aq h2 ae rfl ?_;refine j9 ?_;refine ag h2 (KS (p := p) (g := g) (σ := σ) ((Ad g.m σ.μ who (13, (o : Int), 0) (by omega)).imp fun _ R H h => gn (N' := σ.μ.N + 2) (by simp) h)) fun _ H3 h3 => ?_;refine aq h3 ae rfl ?_;have h4 := h3;unfold aI at h4
 have ez : (zl ((σ.obs.map fun x : Ob × List Pk => x.1).zip g.rp)[o]).take 3 = [vi (σ.obs[o]).1.flow, vi (σ.obs[o]).1.most, vu (σ.obs[o]).1.r] := by
  rw [List.getElem_zip, List.getElem_map]
  rfl
 refine NJ (enc := zl) (l := (σ.obs.map fun x : Ob × List Pk => x.1).zip g.rp) h4 (by omega) (by omega) ez ?_;refine f7 h3 rfl rfl fun H5 h5 => ?_;refine aU h5 ?_;exact ap ⟨(), rfl, h5.to⟩
end
abbrev De (b : Bool) : List Value := [vb b]
instance : Enc De 1 := ⟨fun _ => rfl, fun _ => rfl, by omega⟩
structure WA (σ σ1 : az) (s K : Nat) : Prop where
 c : σ1.c = σ.c
 obs : σ1.obs = σ.obs
 nx : σ1.nx = σ.nx
 w : ∀ o : Nat, σ1.μ.V (11, (o : Int), 0) = σ.μ.V (11, (o : Int), 0)
 l : ∀ s' : Nat, s ≤ s' → σ1.μ.V (9, (s' : Int), 0) = σ.μ.V (9, (s' : Int), 0)
 N : σ1.μ.N ≤ K
theorem WA.acc {σ σ1 : az} {s K : Nat} (h : WA σ σ1 s K) (who kd : Int) (l : bC) : WA σ (σ1.mem (σ1.μ.acc who kd l)) s (K + 2) :=
 ⟨h.c, h.obs, h.nx, h.w, h.l, by have := h.N; show σ1.μ.N + 2 ≤ _; omega⟩
theorem WA.mono {σ σ1 : az} {s s' K K' : Nat} (h : WA σ σ1 s K) (hs : s ≤ s') (hK : K ≤ K') : WA σ σ1 s' K' :=
 ⟨h.c, h.obs, h.nx, h.w, fun k hk => h.l k (by omega), dN h.N hK⟩
structure LsR (σ : az) (ls : Int → List Nat) : Prop where
 ch : ∀ s, Yo σ.nx (ls s) ∧ σ.μ.V (9, s, 0) = YD (ls s)
 nd : ∀ s, (ls s).Nodup
 mem : ∀ s o, o ∈ ls s → o < σ.obs.length ∧ σ.μ.V (11, (o : Int), 0) ≠ 0 ∧ (cE σ o).tmod σ.c.sh = s
 all : ∀ o : Nat, o < σ.obs.length → σ.μ.V (11, (o : Int), 0) ≠ 0 → o ∈ ls ((cE σ o).tmod σ.c.sh)
 fl : ∀ o, o < σ.obs.length → 0 ≤ cE σ o
theorem PH {σ : az} {o : Nat} (h : o < σ.obs.length) : cE σ o = (σ.obs[o]).1.flow := by unfold cE; rw [br h]; rfl
theorem PY : ∀ {l : List Nat} {n : Nat}, l.Nodup → (∀ o ∈ l, o < n) → l.length ≤ n := by
 intro l n hn hl;have := List.Nodup.sublist (l₂ := l) (List.Sublist.refl l) hn
 induction n generalizing l with
 | zero =>
  cases l with
  | nil => exact bf _
  | cons o l => exact absurd (hl o (List.mem_cons_self ..)) (by omega)
 | succ n ih =>
  by_cases h : n ∈ l
  ·have h1 := ih (l := l.erase n) (hn.erase n) (fun o ho => by
    have := hl o (List.mem_of_mem_erase ho)
    have : o ≠ n := fun e => by subst e; exact (hn.not_mem_erase) ho
    omega) (hn.erase n)
   rw [List.length_erase_of_mem h] at h1;omega
  ·have := ih (l := l) hn (fun o ho => by
    have := hl o ho
    have : o ≠ n := fun e => by subst e; exact h ho
    omega) hn
   omega
theorem VJ {ws : List Wk} {w : Nat} {q : Nat × Nat × Tk} {r : az × Tk × Bool} (hwl : w < ws.length) : de (ws.set w (if r.2.2 = true then none else some (q.1, q.2.1, r.2.1))) = kF (de ws) w r := funext fun k => by
 rw [qx hwl];unfold kF
 by_cases e : k = w
 ·rw [if_pos e, if_pos e]; split <;> rfl
 ·rw [if_neg e, if_neg e]
theorem WI.begin {i : Nat} {σ : az} {ws : List Wk} {ls : Int → List Nat} {w e xk : Nat} {place : Int} {c : Cl} (M : WI i σ (de ws) ls) (hl : ws.length = 4) (hw : ws[w]? = some none) : WI i (σ.begin w place) (de (ws.set w (some (e, xk, Tk.new σ.c w c)))) ls := by
 have hwl := w5 hw
 have h0 : de ws w = none := by unfold de; rw [hw]
 have tkE : ∀ k, de (ws.set w (some (e, xk, Tk.new σ.c w c))) k = if k = w then some (Tk.new σ.c w c) else de ws k := fun k => by rw [qx hwl]; rfl
 have a0 : (Tk.new σ.c w c).at' = 0 := rfl
 have nl0 : ¬ jI (Tk.new σ.c w c) := fun q => by rcases q with q | q <;> rw [a0] at q <;> omega
 have old : ∀ {w' t'}, de (ws.set w (some (e, xk, Tk.new σ.c w c))) w' = some t' → jI t' → w' ≠ w ∧ de ws w' = some t' := fun {w' t'} h hl => by
  rw [tkE] at h
  by_cases q : w' = w
  ·rw [if_pos q] at h
   cases h;exact absurd hl nl0
  ·rw [if_neg q] at h
   exact ⟨q, h⟩
 refine ⟨M.so, fun w' t' hw' j0 => ?_, M.wz, M.ch, M.nd, M.mem, fun o ho hv => ?_, fun w' t' hw' j0 hl' => M.lk w' t' hw' (old j0 hl').2 hl', fun w1 w2 t1 t2 h1 h2 hn e1 e2 l1 l2 => M.lk2 w1 w2 t1 t2 h1 h2 hn (old e1 l1).2 (old e2 l2).2 l1 l2, M.fl, ?_⟩
 ·rw [tkE] at j0
  by_cases q : w' = w
  ·rw [if_pos q] at j0
   cases j0;exact sL (.inl (by rw [a0]; omega))
  ·rw [if_neg q] at j0
   have T := M.tw w' t' hw' j0;exact ⟨T.obj, T.rest, T.one⟩
 ·rcases M.all o ho hv with h | ⟨w', t', a, b, c, d⟩
  ·exact .inl h
  ·refine .inr ⟨w', t', a, ?_, c, d⟩
   rw [tkE, if_neg (fun q => by rw [q, h0] at b; cases b)];exact b
 ·have e1 : S4 (iI (de (ws.set w (some (e, xk, Tk.new σ.c w c))))) = S4 (iI (de ws)) := by
   have := uT (w := w) (by omega) (f := iI (de ws)) (f' := iI (de (ws.set w (some (e, xk, Tk.new σ.c w c))))) (fun u _ hu => by unfold iI; rw [tkE, if_neg hu])
   have q1 : iI (de ws) w = 0 := by unfold iI; rw [h0]
   have q2 : iI (de (ws.set w (some (e, xk, Tk.new σ.c w c)))) w = 0 := by unfold iI; rw [tkE, if_pos rfl]; rfl
   omega
  rw [e1];exact M.sec
theorem WI.mono {i i' : Nat} {σ : az} {tk : Nat → Option Tk} {ls : Int → List Nat} (M : WI i σ tk ls) (h : i ≤ i') : WI i' σ tk ls := by
 obtain ⟨b, h1, h2⟩ := M.sec;exact ⟨M.so, M.tw, M.wz, M.ch, M.nd, M.mem, M.all, M.lk, M.lk2, M.fl, b, h1, by omega⟩
theorem XC {c : eR} (hc : bM c = true) : ∀ n, n ≤ 16 → ∀ s i, (az.made c n).μ.V (10, s, i) ≠ 0 → (az.made c n).μ.V (10, s, i) % yK < (az.made c n).obs.length ∧ (cE (az.made c n) ((az.made c n).μ.V (10, s, i) % yK)).tmod c.sh = s := by
 intro n
 induction n with
 | zero => intro _ s i h; exact absurd rfl h
 | succ n ih =>
  intro hn s i;have hm := rZ c n;unfold az.made
  split
  ·have hlen : ((az.made c n).lay (n : Int) (1 + (n : Int)) (2 + (n : Int).tmod 2)).obs.length = (az.made c n).obs.length + 1 := by simp [az.lay, az.make]
   rw [hlen]
   have hf : ∀ o, o < (az.made c n).obs.length → cE ((az.made c n).lay (n : Int) (1 + (n : Int)) (2 + (n : Int).tmod 2)) o = cE (az.made c n) o := fun o ho => by
    unfold cE;show ((((az.made c n).obs ++ [_])[o]?).map _).getD (-1) = _;rw [List.getElem?_append_left ho]
   have hf2 : cE ((az.made c n).lay (n : Int) (1 + (n : Int)) (2 + (n : Int).tmod 2)) (az.made c n).obs.length = n := by
    unfold cE;show ((((az.made c n).obs ++ [_])[(az.made c n).obs.length]?).map _).getD (-1) = _;rw [List.getElem?_append_right (bf _), Nat.sub_self]
    rfl
   show (if ((10 : Int), s, i) = (10, ((n : Nat) : Int).tmod (az.made c n).c.sh, ((n : Nat) : Int).tdiv (az.made c n).c.sh) then cS n (az.made c n).obs.length else (az.made c n).μ.V (10, s, i)) ≠ 0 →
    (if ((10 : Int), s, i) = (10, ((n : Nat) : Int).tmod (az.made c n).c.sh, ((n : Nat) : Int).tdiv (az.made c n).c.sh) then cS n (az.made c n).obs.length else (az.made c n).μ.V (10, s, i)) % yK < _ ∧
    (cE _ ((if ((10 : Int), s, i) = (10, ((n : Nat) : Int).tmod (az.made c n).c.sh, ((n : Nat) : Int).tdiv (az.made c n).c.sh) then cS n (az.made c n).obs.length else (az.made c n).μ.V (10, s, i)) % yK)).tmod c.sh = s
   by_cases e : ((10 : Int), s, i) = (10, ((n : Nat) : Int).tmod (az.made c n).c.sh, ((n : Nat) : Int).tdiv (az.made c n).c.sh)
   ·rw [if_pos e, qw (by omega), hf2]
    intro _;refine ⟨by omega, ?_⟩
    injection e with _ e
    injection e with e _
    rw [e, hm.1]
   ·rw [if_neg e]
    intro h;obtain ⟨h1, h2⟩ := ih (by omega) s i h;exact ⟨by omega, by rw [hf _ h1]; exact h2⟩
  ·exact ih (by omega) s i
theorem XB (c : eR) : ∀ n, ∀ o, o < (az.made c n).obs.length → 0 ≤ cE (az.made c n) o := by
 intro n
 induction n with
 | zero => intro o h; cases h
 | succ n ih =>
  intro o;unfold az.made
  split
  ·intro h
   unfold cE;show 0 ≤ ((((az.made c n).obs ++ [_])[o]?).map _).getD (-1)
   have hlen : ((az.made c n).lay (n : Int) (1 + (n : Int)) (2 + (n : Int).tmod 2)).obs.length = (az.made c n).obs.length + 1 := by simp [az.lay, az.make]
   by_cases e : o < (az.made c n).obs.length
   ·rw [List.getElem?_append_left e]
    exact ih o e
   ·rw [show o = (az.made c n).obs.length from by omega, List.getElem?_append_right (bf _), Nat.sub_self]
    show (0 : Int) ≤ (n : Int);omega
  ·exact ih o
theorem WI.start {c : eR} (hc : bM c = true) (n : Nat) (hn : n ≤ 16) (V : ∀ z : bC, z.1 ≠ 10 → (az.made c n).μ.V z = 0) : WI 0 (az.made c n) (de [none, none, none, none]) (fun _ => []) := by
 have hm := rZ c n
 have none4 : ∀ w, w < 4 → de [none, none, none, none] w = none := fun w hw => by
  have : w = 0 ∨ w = 1 ∨ w = 2 ∨ w = 3 := by omega
  rcases this with rfl | rfl | rfl | rfl <;> rfl
 refine ⟨fun s i h => by rw [hm.1]; exact XC hc n hn s i h, (fun w t hw ht => by rw [none4 w hw] at ht; cases ht), fun o => .inl (V (11, (o : Int), 0) (by simp)), fun s => ⟨trivial, V (9, s, 0) (by simp)⟩, fun _ => List.nodup_nil, (fun s o h => by cases h), fun o _ h => absurd (V (11, (o : Int), 0) (by simp)) h, (fun w t hw ht => by rw [none4 w hw] at ht; cases ht), (fun w w' t t' hw _ _ ht => by rw [none4 w hw] at ht; cases ht), XB c n, 0, ?_, bf _⟩;rw [V (3, 0, 0) (by simp)]
 rfl
theorem WI.ended {i : Nat} {σ : az} {ws : List Wk} {ls : Int → List Nat} (M : WI i σ (de ws) ls) (h : ∀ w, w < 4 → de ws w = none) : LsR σ ls ∧ ∃ b, σ.μ.V (3, 0, 0) = b * yK + b ∧ b ≤ i := by
 refine ⟨⟨M.ch, M.nd, M.mem, fun o ho hv => ?_, M.fl⟩, ?_⟩
 ·rcases M.all o ho hv with q | ⟨w, t, a, b, _⟩
  ·exact q
  ·rw [h w a] at b; cases b
 ·obtain ⟨b, h1, h2⟩ := M.sec
  have e : S4 (iI (de ws)) = 0 := by
   unfold S4 iI;rw [h 0 (by omega), h 1 (by omega), h 2 (by omega), h 3 (by omega)]
   rfl
  rw [e, Nat.add_zero] at h1;exact ⟨b, h1, by omega⟩
def WJ (c0 : eR) (LL : List (lW × List Cl)) (i n : Nat) (σ : az) (ws : List Wk) (ats : List Nat) : Prop := YZ i n σ ws ats ∧ LJ c0 LL 365 i σ ws ats ∧ ws.length = 4 ∧ ats.length = 4 ∧ σ.obs.length ≤ 16 ∧ ∃ ls, WI i σ (de ws) ls
section
variable (p x : Nat) (rp : List Nat)
theorem KL {pb ib : Nat} {g : PIds} {gx : XIds} {σ σ0 : az} {ls : Int → List Nat} {R : SP} (hc : bM σ.c = true) (hg : g.rp.length = σ.obs.length) (hN : σ.μ.N ≤ 60100) (hob : σ.obs.length ≤ 16) (hx : σ0.c = σ.c) (LR : LsR σ ls) (x6 : Value) :
 ∀ (H : AH), ac (ts 1 De (vs ib σ.obs.length 1) (List.replicate σ.obs.length false) * (aI p g σ * (blk pb (.cells false [vp p, vp x]) * (av x gx σ0 * R)))) H →
  wp (jH x6 (vp pb) (vs ib σ.obs.length 1) H) fun v' _ => v' = vb true := by
 intro H h;have hcfg := bE.1 hc;refine aj (rS ..) ?_;refine aj (qE ..) ?_
 have hob' : σ.obs.length < 1000 := by omega
 have words : ∀ (d k : Nat) (bs : List Bool) (σ1 : az) (K : Nat) (H : AH), k + d = σ.obs.length → WA σ σ1 4 K → K + 10 * d ≤ 70000 → bs.length = σ.obs.length → (∀ o (ho : o < bs.length), bs[o] = decide (σ.μ.V (11, (o : Int), 0) ≠ 0)) →
  ac (ts 1 De (vs ib σ.obs.length 1) bs * (aI p g σ1 * (blk pb (.cells false [vp p, vp x]) * (av x gx σ0 * R)))) H → wp (gl x6 (vp pb) (vs ib σ.obs.length 1) (vi (k : Int)) H) fun v' _ => v' = vb true := by
  intro d
  induction d with
  | zero =>
   intro k bs σ1 K H hk P hK hl hb h;refine aj (kT ..) ?_;refine ja (s := vs ib σ.obs.length 1) (l := bs) h ?_;refine aa (b4 (by omega)) ?_;refine gs ?_;refine aj (o6 ..) ?_;refine aj (rU ..) ?_;exact ap rfl
  | succ d ih =>
   intro k bs σ1 K H hk P hK hl hb h
   have hkl : k < bs.length := by omega
   have hko : k < σ1.obs.length := by rw [P.obs]; omega
   have hg1 : g.rp.length = σ1.obs.length := by rw [P.obs]; exact hg
   obtain ⟨rb, hrb⟩ : ∃ b, g.rp[k]? = some b := ⟨_, br (by omega)⟩;refine aj (kT ..) ?_;refine ja (s := vs ib σ.obs.length 1) (l := bs) h ?_;refine aa (cJ (by omega)) ?_;refine gs ?_;refine aj (rW ..) ?_;refine aq h aD rfl ?_;refine ag h (wP p g σ1 hg1 k rb hko hrb) fun _ H1 h1 => ?_;refine aa (mi _) ?_;refine aa (v := vs ib σ.obs.length 1) rfl ?_;refine aa (v := vi (k : Int)) rfl ?_;rw [rN];refine ZQ (s := vs ib σ.obs.length 1) (enc := De) (l := bs) (i := k) (v := vb bs[k]) h1 hkl rfl fun a ha => ?_;refine cL ?_;refine aa (ha h1) ?_;refine aa (v := vp rb) rfl ?_;refine lV ?_;refine ag h1 (jX (p := p) (g := g) (σ := σ1) (o := k) (b := rb) hg1 hko hrb (wg g.m k rb (aw σ1 k) σ1.μ 0 (by have := P.N; omega))) fun _ H2 h2 => ?_;refine Ba ((ha h2).trans (ha h1).symm) ?_;refine cL ?_;refine aa Cn ?_;refine cL ?_
   have e : bs[k] = (σ1.μ.V (11, (k : Int), 0) != 0) := by
    rw [hb k hkl, P.w];cases hz : decide (σ.μ.V (11, (k : Int), 0) ≠ 0)
    ·have := of_decide_eq_false hz
     simp at this;rw [this]; rfl
    ·have := of_decide_eq_true hz
     simp [this]
   rw [← e];refine aa (UF _) ?_;refine aa (nH _ _) ?_;refine gs ?_;refine aj (rX ..) ?_;refine aa (aO (by omega) (by omega)) ?_;rw [show ((k : Nat) : Int) + 1 = ((k + 1 : Nat) : Int) from by omega];exact ih (k + 1) bs (σ1.mem (σ1.μ.acc 0 1 (11, (k : Int), 0))) (K + 2) H2 (by omega) (P.acc _ _ _) (by omega) hl hb h2.to
 -- shard by shard
 have shards : ∀ (d s : Nat) (bs : List Bool) (σ1 : az) (K : Nat) (H : AH), (s : Int) + d = σ.c.sh → WA σ σ1 s K → K ≤ 60100 + 1000 * s → bs.length = σ.obs.length → (∀ o (ho : o < bs.length), bs[o] = decide (σ.μ.V (11, (o : Int), 0) ≠ 0 ∧ (cE σ o).tmod σ.c.sh < s)) →
  ac (ts 1 De (vs ib σ.obs.length 1) bs * (aI p g σ1 * (blk pb (.cells false [vp p, vp x]) * (av x gx σ0 * R)))) H → wp (fI x6 (vp pb) (vs ib σ.obs.length 1) (vi (s : Int)) H) fun v' _ => v' = vb true := by
  intro d
  induction d with
  | zero =>
   intro s bs σ1 K H hs P hK hl hb h;refine aj (jR ..) ?_;refine aq h aD rfl ?_;have hu := h;unfold av at hu;refine aq (v := vi σ0.c.sh) hu (gf (bR (bR bU))) rfl ?_;rw [hx];refine aa (b4 (by omega)) ?_;refine gs ?_;refine aj (oo ..) ?_;refine aj (rT ..) ?_;refine aj (rV ..) ?_;refine words σ.obs.length 0 bs σ1 K H (by omega) (P.mono (by omega) (bf _)) (by omega) hl (fun o ho => ?_) h;rw [hb o ho]
   congr 1
   apply propext;refine ⟨fun q => q.1, fun q => ⟨q, ?_⟩⟩;have := LR.all o (by omega) q;have h1 := (LR.mem _ o this).2.2;have := Fi (cE σ o) (n := σ.c.sh) (by omega);omega
  | succ d ih =>
   intro s bs σ1 K H hs P hK hl hb h;refine aj (jR ..) ?_;refine aq h aD rfl ?_;have hu := h;unfold av at hu;refine aq (v := vi σ0.c.sh) hu (gf (bR (bR bU))) rfl ?_;rw [hx];refine aa (cJ (by omega)) ?_;refine gs ?_;refine aj (qF ..) ?_;refine aq h aD rfl ?_;refine aq h ae rfl ?_;refine ag h (sP (p := p) (g := g) (σ := σ1) (Je (ib := g.ib) (m := g.m) (nm := g.nm) (c := σ1.c) (nx := σ1.nx) (μ := σ1.μ) (who := 0) s (by have := P.N; omega))) fun _ H1 h1 => ?_;refine aj (qH ..) ?_;refine aj (qJ ..) ?_
   have e9 : σ1.μ.V (9, (s : Int), 0) = YD (ls s) := by rw [P.l s (bf _)]; exact (LR.ch s).2
   rw [e9];have hnd := LR.nd s;have hlen := PY hnd (fun o ho => (LR.mem s o ho).1)
   -- object by object
   have objs : ∀ (l pre : List Nat) (bs : List Bool) (σ2 : az) (K : Nat) (H : AH), ls s = pre ++ l → WA σ σ2 (s + 1) K → K ≤ 60100 + 1000 * s + 10 + 10 * pre.length → bs.length = σ.obs.length → (∀ o (ho : o < bs.length), bs[o] = decide (σ.μ.V (11, (o : Int), 0) ≠ 0 ∧ (cE σ o).tmod σ.c.sh < s ∨ o ∈ pre)) →
    ac (ts 1 De (vs ib σ.obs.length 1) bs * (aI p g σ2 * (blk pb (.cells false [vp p, vp x]) * (av x gx σ0 * R)))) H → wp (fJ x6 (vp pb) (vs ib σ.obs.length 1) (vi (s : Int)) (vu (YD l)) (vi (pre.length : Int)) H) fun v' _ => v' = vb true := by
    intro l
    induction l with
    | nil =>
     intro pre bs σ2 K H hp P2 hK2 hl2 hb2 h2
     have hpl : pre.length ≤ 16 := by rw [hp] at hlen; simp at hlen; omega
     refine aj (jS ..) ?_;refine aa (cJ (by omega)) ?_;refine aa (v := vu 0) rfl ?_;refine lU ?_;refine aa Cn ?_;refine aa (v := vb false) rfl ?_;refine gs ?_;refine aj (oq ..) ?_;refine aj (qI ..) ?_;refine aa Cn ?_;show wp (ax (vb false) _ _) _;refine gs ?_;refine aj (qG ..) ?_;refine aa (aO (by omega) (by omega)) ?_;rw [show ((s : Nat) : Int) + 1 = ((s + 1 : Nat) : Int) from by omega];refine ih (s + 1) bs σ2 K H (by omega) P2 (by omega) hl2 (fun o ho => ?_) h2;rw [hb2 o ho]
     congr 1
     apply propext;rw [List.append_nil] at hp
     constructor
     ·rintro (⟨q1, q2⟩ | q)
      ·exact ⟨q1, by omega⟩
      ·rw [← hp] at q
       obtain ⟨_, q1, q2⟩ := LR.mem s o q;exact ⟨q1, by omega⟩
     ·rintro ⟨q1, q2⟩
      by_cases e : (cE σ o).tmod σ.c.sh = s
      ·have := LR.all o (by omega) q1
       rw [e, hp] at this;exact .inr this
      ·exact .inl ⟨q1, by omega⟩
    | cons o l ihl =>
     intro pre bs σ2 K H hp P2 hK2 hl2 hb2 h2;rw [show YD (o :: l) = o + 1 from rfl]
     have hpl : pre.length ≤ 15 := by rw [hp] at hlen; simp at hlen; omega
     obtain ⟨m1, m2, m3⟩ := LR.mem s o (by rw [hp]; simp)
     have hol : o < bs.length := by omega
     have ho2 : o < σ2.obs.length := by rw [P2.obs]; exact m1
     have hg2 : g.rp.length = σ2.obs.length := by rw [P2.obs]; exact hg
     have hpre : o ∉ pre := by
      rw [hp] at hnd;exact fun q => (List.nodup_append.1 hnd).2.2 o q o (List.mem_cons_self ..) rfl
     have hbo : bs[o] = false := by
      rw [hb2 o hol];refine hZ ?_
      rintro (⟨_, q⟩ | q)
      ·omega
      ·exact hpre q
     have chs : Yo σ.nx (o :: l) := by
      have := (LR.ch s).1;rw [hp] at this
      clear hp hK2 hb2 hpre hpl
      induction pre with
      | nil => exact this
      | cons a pre ihp => exact ihp this.2
     have enx : σ2.nx (o : Int) = some (YD l) := by rw [P2.nx]; exact chs.1
     have hN2 := P2.N;refine aj (jS ..) ?_;refine aa (cJ (by omega)) ?_;refine aa (v := vu (o + 1)) rfl ?_;refine lU ?_;refine aa Cn ?_
     have en : ((o + 1) != 0) = true := by simp
     rw [en];refine aa (v := vb true) rfl ?_;refine gs ?_;refine aj (qK ..) ?_;refine ja (s := vs ib σ.obs.length 1) (l := bs) h2 ?_;refine aa (da (by omega) (by omega)) ?_;rw [show ((bs.length : Nat) : Int).toNat = bs.length from rO _];refine aa (jQ (by omega)) ?_;refine aa (v := vs ib σ.obs.length 1) rfl ?_;refine aa (v := vu (o + 1)) rfl ?_;refine cL ?_;refine aa (ka (b := 1) (by omega) (by omega)) ?_;rw [show o + 1 - 1 = o from rfl];refine pQ ?_;refine i9 (s := vs ib σ.obs.length 1) (l := bs) (i := o) (v := vb bs[o]) h2 hol rfl ?_;rw [hbo];refine aa (nH _ _) ?_;refine pQ ?_;refine aq h2 aD rfl ?_;refine aa (v := vu (o + 1)) rfl ?_;refine cL ?_;refine aa (ka (b := 1) (by omega) (by omega)) ?_;rw [show o + 1 - 1 = o from rfl];refine cL ?_;refine aa (fF (by omega)) ?_;refine lV ?_;refine ag h2 (JS (p := p) (g := g) (σ := σ2) hg2 0 o ho2 (by omega)) fun _ H3 h3 => ?_
     have ef : (σ2.obs[o]).1.flow = cE σ o := by rw [PH m1]; simp only [P2.obs]
     rw [ef];refine cL ?_;refine aa (v := vi (cE σ o)) rfl ?_;rw [rN];refine bg aD ?_;refine cL ?_;refine aN h3 rfl ?_;refine aG h2 h3 (by rfl) ?_;rw [rN];refine bg (gf (bR (bR bU))) ?_;have hu2 := h2;unfold av at hu2;have hu3 := h3;unfold av at hu3;refine cL ?_;refine aN (v := vi σ0.c.sh) hu3 rfl ?_;refine aG hu2 hu3 (by rfl) ?_;rw [hx];refine cL ?_;refine aa (i8 (by omega)) ?_;refine aa (v := vi (s : Int)) rfl ?_;refine cL ?_;refine aa (GB m3) ?_;refine aa (nH _ _) ?_;refine gs ?_;refine aa (ka (b := 1) (by omega) (by omega)) ?_;rw [show o + 1 - 1 = o from rfl];refine CT (s := vs ib σ.obs.length 1) (l := bs) (i := o) true h3 hol (.inl ⟨rfl, rfl⟩) rfl (by omega) rfl rfl fun H4 h4 => ?_;refine aq h4 aD rfl ?_;refine aq h4 ae rfl ?_;refine aa (ka (b := 1) (by omega) (by omega)) ?_;rw [show o + 1 - 1 = o from rfl];refine aa (fF (by omega)) ?_;refine ag h4 (sP (p := p) (g := g) (σ := σ2.mem (σ2.μ.acc 0 5 (13, (o : Int), 0))) (Jh (ib := g.ib) (m := g.m) (nm := g.nm) (c := σ2.c) (nx := σ2.nx) (μ := σ2.μ.acc 0 5 (13, (o : Int), 0)) (who := 0) (o : Int) (by show σ2.μ.N + 2 < _; omega))) fun _ H5 h5 => ?_;rw [enx];refine aj (qL ..) ?_;refine aa (aO (by omega) (by omega)) ?_
     have el : ((pre.length : Nat) : Int) + 1 = (((pre ++ [o]).length : Nat) : Int) := by simp
     rw [el];refine ihl (pre ++ [o]) (bs.set o true) ((σ2.mem (σ2.μ.acc 0 5 (13, (o : Int), 0))).mem ((σ2.μ.acc 0 5 (13, (o : Int), 0)).acc 0 5 (14, (o : Int), 0))) (K + 4) H5 (by rw [hp, List.append_assoc]; rfl) ((P2.acc _ _ _).acc _ _ _) (by rw [nC, List.length_singleton]; omega) (by rw [vx]; exact hl2) (fun o' ho' => ?_) h5.to;rw [List.getElem_set]
     by_cases e : o = o'
     ·rw [if_pos e]
      refine (ia ?_).symm;exact .inr (by rw [← e]; simp)
     ·rw [if_neg e, hb2 o' (by rw [vx] at ho'; exact ho')]
      congr 1
      apply propext;rw [List.mem_append, List.mem_singleton]
      constructor
      ·rintro (q | q)
       ·exact .inl q
       ·exact .inr (.inl q)
      ·rintro (q | q | q)
       ·exact .inl q
       ·exact .inr q
       ·exact absurd q.symm e
   refine objs (ls s) [] bs (σ1.mem ((σ1.μ.acc 0 3 (9, (s : Int), 0)).put (9, (s : Int), 0) 0)) (K + 2) H1 rfl ⟨P.c, P.obs, P.nx, fun o => ?_, fun s' hs' => ?_, ?_⟩ (by omega) hl (fun o ho => ?_) h1.to
   ·show (if ((11 : Int), (o : Int), (0 : Int)) = (9, (s : Int), 0) then 0 else σ1.μ.V (11, (o : Int), 0)) = _
    rw [if_neg (by simp)];exact P.w o
   ·show (if ((9 : Int), (s' : Int), (0 : Int)) = (9, (s : Int), 0) then 0 else σ1.μ.V (9, (s' : Int), 0)) = _
    rw [if_neg (fun q => by injection q with _ q; injection q with q _; omega)];exact P.l s' (by omega)
   ·have := P.N
    show σ1.μ.N + 2 ≤ _;omega
   ·rw [hb o ho]
    congr 1
    apply propext;simp
 refine shards σ.c.sh.toNat 0 (List.replicate σ.obs.length false) σ 60100 H (by omega) ⟨rfl, rfl, rfl, fun _ => rfl, fun _ _ => rfl, hN⟩ (by omega) (by simp) (fun o ho => ?_) h;rw [List.getElem_replicate];refine (hZ ?_).symm
 rintro ⟨q1, q2⟩
 have h1 := Int.tmod_nonneg σ.c.sh (LR.fl o (by simpa using ho));omega
end
end Go.Proofs.YtghoamdlcjdfjaaGreatDoor.Gst
