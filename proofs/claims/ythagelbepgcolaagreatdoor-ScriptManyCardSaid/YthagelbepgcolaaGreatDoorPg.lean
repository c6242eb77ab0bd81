/- Several texts in one. -/
import Derived.Lib.Join
import Derived.Test.YthagelbepgcolaaGreatDoorPf
namespace Go.Proofs.YthagelbepgcolaaGreatDoor.Gst
open Go Go.RowKit
set_option linter.unusedSimpArgs false
set_option linter.unusedVariables false
set_option maxHeartbeats 4000000
set_option maxRecDepth 100000
def tEv (T : Tr Value) : Operand → Value
 | .tmp t => match T.get t with
  | some v => v
  | none => undef
 | .const v => v
 | .global g => .pointer (some ⟨g, 0, none⟩)
 | .func f => .func (.func f) #[] #[]
def ak4 (m : Nat) (T : Tr Value) (dst : Option Tmp) (v : Value) : Option (Tr Value) :=
 match dst with
 | some j => match Nat.blt j m with
  | true => Tr.set v 24 T j
  | false => none
 | none => some T
def SA (ops : Array Oper) (T : Tr Value) (j : Nat) : Option Bool :=
 match (ops[j]?).bind (·.dst) with
 | some t => match T.get t with
  | some (.bool b) => some b
  | _ => none
 | none => none
def Vb (P : Program) (G : List Nat) (call : TF) (ops : Array Oper) (m : Nat) (o : Oper) (T : Tr Value) (E : EH) : Option (Tr Value × EH) :=
 match o.op.operands.toList.all (Hx G) with
 | true => match Region.wanted o (SA ops T) with
  | true => (Bw P call (tEv T) o E).bind fun r => (ak4 m T o.dst r.1).map fun T' => (T', r.2)
  | false => (ak4 m T o.dst undef).map fun T' => (T', E)
 | false => none
def XK (P : Program) (G : List Nat) (call : TF) (ops : Array Oper) (m : Nat) : List Oper → Tr Value → EH → List (Tr Value × EH) → Option (List (Tr Value × EH) × Tr Value × EH)
 | [], T, E, hist => some (hist ++ [(T, E)], T, E)
 | o :: rest, T, E, hist => (Vb P G call ops m o T E).bind fun r => XK P G call ops m rest r.1 r.2 (hist ++ [(T, E)])
def amE (P : Program) (G : List Nat) (hist : List (Tr Value × EH)) (ops : Array Oper) (p : Nat × Nat) : Bool :=
 match ops[p.1]?, hist[p.1]?, hist[if p.2 < p.1 then p.2 else p.2 + 1]? with
 | some o, some s, some s' => o.op.operands.toList.all (Hx G) && eqO (tRd P (tEv s.1) o.op s'.2) (tRd P (tEv s.1) o.op s.2)
 | _, _, _ => false
def Fp (P : Program) (G : List Nat) (call : TF) (ops : Array Oper) (m : Nat) (draw : Bool) (T : Tr Value) (E : EH) : Option (Tr Value × EH) :=
 match draw with
 | true => match pZ ops.toList with
  | true => (XK P G call ops m ops.toList T E []).bind fun r => match (dB ops.toList).all (amE P G r.1 ops) with
   | true => some r.2
   | false => none
  | false => none
 | false => (XK P G call ops m ops.toList T E []).map (·.2)
abbrev TR := AE × Tr Value × EH
def Va (f : Tr Value → EH → Option TR) : Nat → Tr Value → EH → Option TR
 | 0, _, _ => none
 | n + 1, T, E => (f T E).bind fun r => match r.1 with
  | .normal => Va f n r.2.1 r.2.2
  | _ => some r
def iy (P : Program) (G : List Nat) (call : TF) (N m : Nat) : Code → Tr Value → EH → Option TR
 | .skip, T, E => some (.normal, T, E)
 | .label _, T, E => some (.normal, T, E)
 | .region _ ops draw, T, E => (Fp P G call ops m draw T E).map fun s => (.normal, s.1, s.2)
 | .seq x y, T, E => (iy P G call N m x T E).bind fun r => match r.1 with
  | .normal => iy P G call N m y r.2.1 r.2.2
  | _ => some r
 | .cond c x y, T, E => match Hx G c with
  | true => match tEv T c with
   | .bool true => iy P G call N m x T E
   | .bool false => iy P G call N m y T E
   | _ => none
  | false => none
 | .block id x, T, E => (iy P G call N m x T E).map fun r => match r.1 with
  | .exit i => if i = id then (.normal, r.2.1, r.2.2) else r
  | _ => r
 | .loop x, T, E => Va (iy P G call N m x) N T E
 | .exit id, T, E => some (.exit id, T, E)
 | .ret, T, E => some (.ret, T, E)
 | _, _, _ => none
def HX (T : Tr Value) (t : Nat) : Value := match T.get t with
 | some v => v
 | none => undef
def Bx (P : Program) (T : Tr Value) (E : EH) : ResultVar → Option Value
 | .tmp t => some (HX T t)
 | .cell a t => (eG P t).bind fun g => match g with
  | some n => YL n (HX T a) E
  | none => YK (HX T a) E
def JS (P : Program) (T : Tr Value) (E : EH) : List ResultVar → Option (List Value)
 | [] => some []
 | r :: rs => (Bx P T E r).bind fun v => (JS P T E rs).bind fun vs => some (v :: vs)
def ahA (P : Program) (rs : List ResultVar) (r : TR) : Option (Value × EH) :=
 match r.1 with
 | .exit _ => none
 | _ => (JS P r.2.1 r.2.2 rs).map fun vs => (match vs with
  | [v] => v
  | vs => .tuple vs.toArray, r.2.2)
def OQ : List Value → Nat → Tr Value → Option (Tr Value)
 | [], _, T => some T
 | v :: vs, i, T => (Tr.set v 24 T i).bind fun T' => OQ vs (i + 1) T'
section
variable {P : Program} {G : List Nat} {g d m N : Nat} {F : List AObj}
structure ER (g d m : Nat) (T : Tr Value) (A : List Value) : Prop where
 len : A.length = m
 get : ∀ t, A[t]?.getD undef = aY g d (HX T t)
theorem OP {v : Value} {T T' : Tr Value} {j : Nat} (h : Tr.set v 24 T j = some T') (t : Nat) : HX T' t = if t = j then v else HX T t := by
 unfold HX;rw [Tr.get_set 24 h t]
 by_cases e : t = j
 ·rw [if_pos e, if_pos e]
 ·rw [if_neg e, if_neg e]
theorem ER.put {T T' : Tr Value} {A : List Value} (h : ER g d m T A) {dst : Option Tmp} {v : Value} (hp : ak4 m T dst v = some T') : ER g d m T' (eF A dst ((aY g d) v)) := by
 unfold ak4 at hp
 cases dst with
 | none => cases hp; exact h
 | some j =>
  simp only at hp
  split at hp
  ·rename_i hb
   have hj : j < m := Nat.le_of_ble_eq_true hb;refine ⟨by simp [eF, h.len], fun t => ?_⟩;rw [OP hp];simp only [eF];rw [List.getElem?_set]
   by_cases e : t = j
   ·rw [if_pos e, if_pos e.symm, if_pos (by rw [h.len]; omega)]; rfl
   ·rw [if_neg e, if_neg (fun x => e x.symm)]; exact h.get t
  ·cases hp
theorem ER.ev {T : Tr Value} {A : List Value} (h : ER g d m T A) (hG : ∀ b ∈ G, b < g) {x : Operand} (hx : Hx G x = true) : cf A x = (aY g d) (tEv T x) := by
 cases x with
 | tmp t => exact h.get t
 | const v => exact (OH hx).symm
 | global b =>
  simp only [Hx, List.contains_iff_mem] at hx;simp [cf, tEv, C7, Bs, hG b hx]
 | func f => simp [cf, tEv]
theorem ER.yield {T : Tr Value} {A : List Value} (h : ER g d m T A) (ops : Array Oper) : bM ops A = SA ops T := by
 funext j
 unfold bM SA
 cases (ops[j]?).bind (·.dst) with
 | none => rfl
 | some t =>
  simp only [aB];have hg := h.get t;unfold HX at hg
  cases hT : T.get t with
  | none =>
   rw [hT] at hg;simp only [vf] at hg
   cases hA : A[t]? with
   | none => rfl
   | some v => rw [hA] at hg; simp only [Option.getD_some] at hg; subst hg; rfl
  | some v =>
   rw [hT] at hg;simp only at hg
   cases hA : A[t]? with
   | none => rw [hA] at hg; simp only [Option.getD_none] at hg; cases v <;> simp [undef] at hg ⊢
   | some w => rw [hA] at hg; simp only [Option.getD_some] at hg; subst hg; cases v <;> simp
structure St (g d m : Nat) (F : List AObj) (x : Tr Value × EH) (y : List Value × AH) : Prop where
 er : ER g d m x.1 y.1
 hr : HR g d F x.2 y.2
theorem OM {c : TF} {c' : aR} (hG : ∀ b ∈ G, b < g) (hc : lO g d F c c') {ops : Array Oper} {o : Oper} {T : Tr Value} {E : EH} {A : List Value} {H : AH} {r} (hS : St g d m F (T, E) (A, H)) (h : Vb P G c ops m o T E = some r) :
 ∃ r', bO P G c' ops o A H = some r' ∧ St g d m F r r' := by
 unfold Vb at h;unfold bO
 split at h
 ·rename_i hok
  rw [if_pos hok];have hev : ∀ x, x ∈ o.op.operands.toList → cf A x = (aY g d) (tEv T x) := fun x hx => hS.er.ev hG (List.all_eq_true.1 hok x hx);rw [hS.er.yield]
  split at h
  ·rename_i hw
   rw [if_pos hw];obtain ⟨⟨v, E1⟩, h1, h⟩ := ai.1 h;obtain ⟨T', h2, e⟩ := au.1 h;cases e;obtain ⟨H', h3, h4⟩ := aoB hS.hr hc hev v E1 h1;rw [h3];exact ⟨_, rfl, hS.er.put h2, h4⟩
  ·rename_i hw
   rw [if_neg (by rw [hw]; simp)];obtain ⟨T', h2, e⟩ := au.1 h;cases e;refine ⟨_, rfl, ?_, hS.hr⟩;have := hS.er.put h2
   rwa [vf] at this
 ·cases h
theorem UT {c : TF} {c' : aR} (hG : ∀ b ∈ G, b < g) (hc : lO g d F c c') {ops : Array Oper} : ∀ (l : List Oper) {T : Tr Value} {E : EH} {A : List Value} {H : AH} {hist r}, St g d m F (T, E) (A, H) → XK P G c ops m l T E hist = some r →
 (∃ r', bJ P G c' ops l A H = some r' ∧ St g d m F r.2 r') ∧ ∃ t, r.1 = hist ++ t ∧ t.length = l.length + 1 ∧ ∀ i, i ≤ l.length → ∃ x y, t[i]? = some x ∧ bJ P G c' ops (l.take i) A H = some y ∧ St g d m F x y := by
 intro l
 induction l with
 | nil =>
  intro T E A H hist r hS h;simp only [XK] at h; cases h;refine ⟨⟨_, rfl, hS⟩, [(T, E)], rfl, rfl, ?_⟩;intro i hi
  have : i = 0 := by simpa using hi
  subst this;exact ⟨_, _, rfl, rfl, hS⟩
 | cons o l ih =>
  intro T E A H hist r hS h;simp only [XK] at h;obtain ⟨q, hq, h⟩ := ai.1 h;obtain ⟨⟨A1, H1⟩, h1, hS1⟩ := OM hG hc hS hq;obtain ⟨T1, E1⟩ := q;obtain ⟨⟨r', h2, hS2⟩, t, e, hl, ht⟩ := ih hS1 h;refine ⟨⟨r', by simp only [bJ, h1, aB]; exact h2, hS2⟩, (T, E) :: t, by rw [e]; simp, by simp [hl], ?_⟩;intro i hi
  cases i with
  | zero => exact ⟨_, _, rfl, rfl, hS⟩
  | succ i =>
   obtain ⟨x, y, hx, hy, hxy⟩ := ht i (by simpa using hi);exact ⟨x, y, by simpa using hx, by simp only [List.take_succ_cons, bJ, h1, aB]; exact hy, hxy⟩
theorem R7 {c : TF} {c' : aR} (hG : ∀ b ∈ G, b < g) (hc : lO g d F c c') {ops : Array Oper} {draw : Bool} {T : Tr Value} {E : EH} {A : List Value} {H : AH} {r} (hS : St g d m F (T, E) (A, H)) (h : Fp P G c ops m draw T E = some r) :
 ∃ r', fm P G c' ops draw A H = some r' ∧ St g d m F r r' := by
 cases draw with
 | false =>
  simp only [Fp, fm] at h ⊢;obtain ⟨q, hq, e⟩ := au.1 h;subst e;exact (UT hG hc _ hS hq).1
 | true =>
  simp only [Fp, fm] at h ⊢
  split at h
  ·rename_i hreg
   obtain ⟨q, hq, h⟩ := ai.1 h
   split at h
   ·rename_i hall
    cases h;obtain ⟨⟨r', h1, h2⟩, t, e, hl, ht⟩ := UT hG hc _ hS hq;refine ⟨r', ?_, h2⟩;unfold dy;rw [hreg];simp only
    cases hp : dB ops.toList with
    | nil => exact h1
    | cons p ps =>
     simp only;rw [fG ?_]
     ·exact h1
     ·rw [← hp]
      intro p hpm o ho;have hx := List.all_eq_true.1 hall p hpm;unfold amE at hx;rw [ho] at hx;simp only [List.nil_append] at e
      have st : ∀ i x, q.1[i]? = some x → St g d m F x (gT P G c' ops A H i) := by
       intro i x hs
       have hi : i < t.length := by rw [e] at hs; exact (Ab.1 hs).1
       obtain ⟨x', y, hx', hy, hxy⟩ := ht i (by omega);rw [e, hx'] at hs;cases hs;unfold gT;rw [hy];exact hxy
      split at hx
      ·rename_i o' x1 x2 ho' hs hs'
       cases ho';simp only [Bool.and_eq_true] at hx;have hev : ∀ x, x ∈ o.op.operands.toList → cf (gT P G c' ops A H p.1).1 x = (aY g d) (tEv x1.1 x) := fun x hxm => (st _ _ hs).er.ev hG (List.all_eq_true.1 hx.1 x hxm);rw [al9 (st _ _ hs').hr hev, al9 (st _ _ hs).hr hev, VX hx.2]
      ·cases hx
   ·cases h
  ·cases h
structure Ar (g d m : Nat) (F : List AObj) (x : TR) (y : AR) : Prop where
 e : x.1 = y.1
 st : St g d m F x.2 y.2
theorem F8 {c : TF} {c' : aR} (hG : ∀ b ∈ G, b < g) (hc : lO g d F c c') : ∀ (k : Code) {T : Tr Value} {E : EH} {A : List Value} {H : AH} {r : TR}, St g d m F (T, E) (A, H) → iy P G c N m k T E = some r →
 ∃ r', ax P G c' k A H = some r' ∧ Ar g d m F r r' := by
 intro k
 induction k with
 | region id ops draw =>
  intro T E A H r hS hr;simp only [iy, ax] at hr ⊢;obtain ⟨q, hq, e⟩ := au.1 hr;obtain ⟨r', h1, h2⟩ := R7 hG hc hS hq;subst e;rw [h1];exact ⟨_, rfl, rfl, h2⟩
 | seq x y ihx ihy =>
  intro T E A H r hS hr;simp only [iy, ax] at hr ⊢;obtain ⟨⟨e, T1, E1⟩, hx, hr⟩ := ai.1 hr;obtain ⟨⟨e', A1, H1⟩, h1, h2⟩ := ihx hS hx;have he : e = e' := h2.e;subst he;rw [h1];simp only [aB]
  cases e with
  | normal => exact ihy h2.st hr
  | exit i => cases hr; exact ⟨_, rfl, h2⟩
  | ret => cases hr; exact ⟨_, rfl, h2⟩
 | cond b x y ihx ihy =>
  intro T E A H r hS hr;simp only [iy, ax] at hr ⊢
  split at hr
  ·rename_i hok
   rw [hS.er.ev hG hok]
   split at hr
   ·rename_i e; rw [e]; simp only [U5]; exact ihx hS hr
   ·rename_i e; rw [e]; simp only [U5]; exact ihy hS hr
   ·cases hr
  ·cases hr
 | block id x ih =>
  intro T E A H r hS hr;simp only [iy, ax] at hr ⊢;obtain ⟨⟨e, T1, E1⟩, hx, hr⟩ := au.1 hr;obtain ⟨⟨e', A1, H1⟩, h1, h2⟩ := ih hS hx;have he : e = e' := h2.e;subst he;rw [h1];subst hr
  cases e with
  | normal => exact ⟨_, rfl, h2⟩
  | exit i =>
   simp only [ff]
   by_cases hi : i = id
   ·rw [if_pos hi, if_pos hi]; exact ⟨_, rfl, rfl, h2.st⟩
   ·rw [if_neg hi, if_neg hi]; exact ⟨_, rfl, h2⟩
  | ret => exact ⟨_, rfl, h2⟩
 | loop x ih =>
  intro T E A H r hS hr;simp only [iy, ax] at hr ⊢
  suffices key : ∀ n T E A H, St g d m F (T, E) (A, H) → Va (iy P G c N m x) n T E = some r → ∃ r', d9 (ax P G c' x) n A H = some r' ∧ Ar g d m F r r' from by
   obtain ⟨r', h1, h2⟩ := key N T E A H hS hr;exact ⟨r', cH.2 ⟨N, h1⟩, h2⟩
  clear hr hS
  intro n
  induction n with
  | zero => intro T E A H hS hr; cases hr
  | succ n ihn =>
   intro T E A H hS hr;simp only [Va, d9] at hr ⊢;obtain ⟨⟨e, T1, E1⟩, hx, hr⟩ := ai.1 hr;obtain ⟨⟨e', A1, H1⟩, h1, h2⟩ := ih hS hx;have he : e = e' := h2.e;subst he;rw [h1];simp only [aB]
   cases e with
   | normal => exact ihn _ _ _ _ h2.st hr
   | exit i => cases hr; exact ⟨_, rfl, h2⟩
   | ret => cases hr; exact ⟨_, rfl, h2⟩
 | skip => intro T E A H r hS hr; simp only [iy] at hr; cases hr; exact ⟨_, rfl, rfl, hS⟩
 | label l => intro T E A H r hS hr; simp only [iy] at hr; cases hr; exact ⟨_, rfl, rfl, hS⟩
 | exit i => intro T E A H r hS hr; simp only [iy] at hr; cases hr; exact ⟨_, rfl, rfl, hS⟩
 | ret => intro T E A H r hS hr; simp only [iy] at hr; cases hr; exact ⟨_, rfl, rfl, hS⟩
 | _ => intro T E A H r hS hr; cases hr
theorem Sf {T : Tr Value} {E : EH} {A : List Value} {H : AH} (hS : St g d m F (T, E) (A, H)) (r : ResultVar) : iC P A H r = (Bx P T E r).map (aY g d) := by
 cases r with
 | tmp t => simp only [iC, Bx, ff]; rw [hS.er.get t]
 | cell a t =>
  simp only [iC, Bx];rw [hS.er.get a]
  cases eG P t with
  | none => rfl
  | some n => cases n with
   | none => exact hS.hr.ld1 _
   | some n => exact hS.hr.ldN _ _
theorem af3 {T : Tr Value} {E : EH} {A : List Value} {H : AH} (hS : St g d m F (T, E) (A, H)) : ∀ rs : List ResultVar, nr P A H rs = (JS P T E rs).map (eB g d) := by
 intro rs
 induction rs with
 | nil => rfl
 | cons r rs ih =>
  simp only [nr, JS];rw [Sf hS, ih]
  cases Bx P T E r with
  | none => rfl
  | some v => cases JS P T E rs <;> rfl
theorem UF {rs : List ResultVar} {x : TR} {y : AR} (h : Ar g d m F x y) : dP g d F (ahA P rs x) (Vp P rs y) := by
 intro v E' hx;obtain ⟨e, T, E⟩ := x;obtain ⟨e', A, H⟩ := y;have he : e = e' := h.e;subst he;have hS := h.st;have hm := af3 (P := P) hS rs
 have key : ∀ vs, JS P T E rs = some vs → bZ P A H rs = some ((aY g d) (match vs with | [v] => v | vs => .tuple vs.toArray)) := by
  intro vs hvs;unfold bZ;rw [hm, hvs];simp only [ff]
  congr 1
  match vs with
  | [] => simp [eB]
  | [v] => rfl
  | v :: w :: vs => simp [eB]
 cases e with
 | exit i => cases hx
 | normal =>
  simp only [ahA, Vp] at hx ⊢;obtain ⟨vs, hvs, e⟩ := au.1 hx;cases e;rw [key vs hvs];exact ⟨H, rfl, hS.hr⟩
 | ret =>
  simp only [ahA, Vp] at hx ⊢;obtain ⟨vs, hvs, e⟩ := au.1 hx;cases e;rw [key vs hvs];exact ⟨H, rfl, hS.hr⟩
theorem afP : ∀ (vs : List Value) (i : Nat) (T : Tr Value) {T' : Tr Value}, OQ vs i T = some T' → ∀ t, HX T' t = if i ≤ t ∧ t < i + vs.length then (vs[t - i]?).getD undef else HX T t := by
 intro vs
 induction vs with
 | nil => intro i T T' h t; simp only [OQ] at h; cases h; rw [if_neg (by simp only [List.length_nil]; omega)]
 | cons v vs ih =>
  intro i T T' h t;simp only [OQ] at h;obtain ⟨T1, h1, h⟩ := ai.1 h;rw [ih _ _ h t, OP h1]
  by_cases e1 : i + 1 ≤ t ∧ t < i + 1 + vs.length
  ·rw [if_pos e1, if_pos (by simp; omega)]
   rw [show t - i = (t - (i + 1)) + 1 from by omega, List.getElem?_cons_succ]
  ·rw [if_neg e1]
   by_cases e2 : t = i
   ·subst e2; rw [if_pos rfl, if_pos (by simp)]; simp
   ·rw [if_neg e2, if_neg (by simp; omega)]
end

theorem di {P : Program} {ops : Array Oper} {Q : Exit → Act → List Frame → World → Prop} {i : Nat} {rest : List Nat} {a : Act} {cs : List Frame} {w : World} {o : Oper} {v : Value} (ho : ops[i]? = some o) (hg : o.guard = none)
 (hr : (execOp a.eval o).run P w = .ok (.value v) w) (h : wpOpsS P ops Q rest (a.put o.dst v) cs w) : wpOpsS P ops Q (i :: rest) a cs w := by
 simp only [wpOpsS, ho];rw [if_pos (by simp [Region.wanted, hg]), hr];exact h
theorem Vj {P : Program} {ops : Array Oper} {Q : Exit → Act → List Frame → World → Prop} {i : Nat} {rest : List Nat} {a : Act} {cs : List Frame} {w : World} {o : Oper} (ho : ops[i]? = some o) (hg : o.guard = none)
 (hr : (execOp a.eval o).run P w = .ok .recover w) (hc : recoverD cs = none) (h : wpOpsS P ops Q rest (a.put o.dst .nilIface) cs w) : wpOpsS P ops Q (i :: rest) a cs w := by
 simp only [wpOpsS, ho];rw [if_pos (by simp [Region.wanted, hg]), hr];simp only [hc];exact h
theorem ef {a : Act} {d : Tmp} {v : Value} (h : d < a.tmps.size) : (a.put (some d) v).eval (.tmp d) = v := by simp [Act.put, Act.eval, h]
theorem Je {a : Act} {d t : Tmp} {v : Value} (h : t ≠ d) : (a.put (some d) v).eval (.tmp t) = a.eval (.tmp t) := by
 simp [Act.put, Act.eval, Array.getD_eq_getD_getElem?, Array.getElem?_setIfInBounds, h.symm]
theorem dX {a : Act} {d : Option Tmp} {v : Value} : (a.put d v).tmps.size = a.tmps.size := by cases d <;> simp [Act.put]
theorem Gc {a : Act} {d : Option Tmp} {v : Value} : (a.put d v).defers = a.defers := by cases d <;> rfl
section
variable {P : Program} {w : World} {ev : Operand → Value} {d : Option Tmp} {x : Operand} {v a b : Value} {y : TypeId} {p : String} {e : Array Edge} {gd : Option (Nat × Bool)}
theorem MX (h : ev x = v) : (execOp ev ⟨d, .move x, y, p, e, gd⟩).run P w = .ok (.value v) w := by simp [execOp, h]
theorem BJ (h : ev x = v) : (execOp ev ⟨d, .assign x, y, p, e, gd⟩).run P w = .ok (.value v) w := by simp [execOp, h]
theorem ahQ (h : ev x = .tuple #[a, b]) : (execOp ev ⟨d, .extract x 0, y, p, e, gd⟩).run P w = .ok (.value a) w := by simp [execOp, h, Instr.extract]
theorem ahR (h : ev x = .tuple #[a, b]) : (execOp ev ⟨d, .extract x 1, y, p, e, gd⟩).run P w = .ok (.value b) w := by simp [execOp, h, Instr.extract]
end
theorem N5 {P : Program} {k : Nat} {fn : Func} (hf : P.funcs[k]? = some fn) (hn : fn.name ≠ "runtime.NumGoroutine") (hr : fn.results = #[]) (hnt : 10 ≤ fn.ntmps)
 {i1 i2 : Nat} {a1 : Array TypeId} {y1 y2 y3 y4 y5 y6 y7 y8 : TypeId} {p1 p2 p3 p4 p5 p6 p7 p8 : String} {e1 e2 e3 e4 e5 e6 e7 e8 : Array Edge} {xt at' : TypeId} {x : Code} {z : Value}
 (hb : fn.body = some (.seq (.region i1 #[⟨some 4, .call ⟨.builtin .recover, #[], a1⟩, y1, p1, e1, none⟩, ⟨some 5, .typeAssert (.tmp 4) xt at' true, y2, p2, e2, none⟩, ⟨some 3, .move (.tmp 5), y3, p3, e3, none⟩,
  ⟨some 6, .extract (.tmp 3) 0, y4, p4, e4, none⟩, ⟨some 7, .extract (.tmp 3) 1, y5, p5, e5, none⟩, ⟨some 1, .assign (.tmp 6), y6, p6, e6, none⟩, ⟨some 2, .assign (.tmp 7), y7, p7, e7, none⟩] false)
  (.seq (.region i2 #[⟨some 8, .move (.tmp 2), y8, p8, e8, none⟩] false) (.cond (.tmp 8) x .skip))))
 (hz : ∀ w, (Instr.typeAssert .nilIface xt at' true).run P w = .ok (.tuple #[z, .bool false]) w) : eo P k := by
 refine ⟨⟨fn, hf, by rw [hb]; rfl, hn⟩, fun args w => callsD_of_wpS hf hb fun c0 cs hm => ?_⟩
 have hsz : 10 ≤ (args ++ Array.replicate (fn.ntmps - args.size) undef).size := by simp; omega
 generalize args ++ Array.replicate (fn.ntmps - args.size) undef = T at hsz
 refine wpS_seq (wpS_region ?_)
 have hs : ∀ a : Act, a.tmps.size = T.size → ∀ j, j < 10 → j < a.tmps.size := fun a h j hj => by omega
 have hrec : recoverD (c0 :: cs) = none := by simp [recoverD, hm]
 have rng : List.range (7 : Nat) = [0, 1, 2, 3, 4, 5, 6] := rfl;have rng1 : List.range (1 : Nat) = [0] := rfl
 have h4 : 4 < T.size := by omega
 have h4 : 4 < T.size := by omega
 simp only [List.size_toArray, List.length_cons, List.length_nil, Nat.zero_add, Nat.reduceAdd, rng];refine Vj (o := ⟨some 4, .call ⟨.builtin .recover, #[], a1⟩, y1, p1, e1, none⟩) rfl rfl rfl hrec ?_;refine di (o := ⟨some 5, .typeAssert (.tmp 4) xt at' true, y2, p2, e2, none⟩) (v := .tuple #[z, .bool false]) rfl rfl ?_ ?_
 ·have e : (({ tmps := T, defers := [] } : Act).put (some 4) .nilIface).eval (.tmp 4) = .nilIface := ef h4
  simp only [execOp, e, Sem.run_bind, hz, Result.andThen_ok, Sem.run_pure]
 refine di (o := ⟨some 3, .move (.tmp 5), y3, p3, e3, none⟩) (v := .tuple #[z, .bool false]) rfl rfl ?_ ?_
 ·exact MX (ef (hs _ (by simp only [dX]) 5 (by omega)))
 refine di (o := ⟨some 6, .extract (.tmp 3) 0, y4, p4, e4, none⟩) (v := z) rfl rfl ?_ ?_
 ·exact ahQ (ef (hs _ (by simp only [dX]) 3 (by omega)))
 refine di (o := ⟨some 7, .extract (.tmp 3) 1, y5, p5, e5, none⟩) (v := .bool false) rfl rfl ?_ ?_
 ·exact ahR ((Je (by decide)).trans (ef (hs _ (by simp only [dX]) 3 (by omega))))
 refine di (o := ⟨some 1, .assign (.tmp 6), y6, p6, e6, none⟩) (v := z) rfl rfl ?_ ?_
 ·exact BJ ((Je (by decide)).trans (ef (hs _ (by simp only [dX]) 6 (by omega))))
 refine di (o := ⟨some 2, .assign (.tmp 7), y7, p7, e7, none⟩) (v := .bool false) rfl rfl ?_ ?_
 ·exact BJ ((Je (by decide)).trans (ef (hs _ (by simp only [dX]) 7 (by omega))))
 show (Code.seq _ _).wpS P _ _ _ _;refine wpS_seq (wpS_region ?_);simp only [List.size_toArray, List.length_cons, List.length_nil, Nat.zero_add, rng1];refine di (o := ⟨some 8, .move (.tmp 2), y8, p8, e8, none⟩) (v := .bool false) rfl rfl ?_ ?_
 ·exact MX (ef (hs _ (by simp only [dX]) 2 (by omega)))
 show (Code.cond _ _ _).wpS P _ _ _ _;refine wpS_cond (t := false) (ef (hs _ (by simp only [dX]) 8 (by omega))) ?_;simp only [Bool.false_eq_true, if_false];refine wpS_of_wp (wp_skip ?_);refine ⟨by simp only [Gc], .returning, by rw [← hm], .tuple #[], ?_, ⟨_, rfl⟩, rfl, rfl⟩;simp [results, hr]
def U9 (P : Program) (G : List Nat) (call : TF) (N n : Nat) (rs : List ResultVar) (s : RSh) (T : Tr Value) (E : EH) : Option (Value × EH) :=
 (iy P G call N n s.c1 T E).bind fun r => match r.1 with
  | .normal => match Nat.blt s.t n with
   | true => (Vb P G call s.ops2 n s.om r.2.1 r.2.2).bind fun q => (iy P G call N n s.c3 q.1 q.2).bind (ahA P rs)
   | false => none
  | _ => none
def Db (P : Program) (G D : List Nat) (O : TF) (N : Nat) : Nat → TF
 | 0 => fun _ _ _ => none
 | k + 1 => fun f args E => match O f args E with
  | some r => some r
  | none => match P.funcs[f]? with
   | some fn => if fn.name = "runtime.NumGoroutine" ∨ fX fn.name = true then none else match fn.body with
    | some c => match Nat.ble args.length fn.ntmps with
     | true => (OQ args 0 .lf).bind fun T => match jg c with
      | none => (iy P G (Db P G D O N k) N fn.ntmps c T E).bind (ahA P fn.results.toList)
      | some s => match D.contains s.k with
       | true => U9 P G (Db P G D O N k) N fn.ntmps fn.results.toList s T E
       | false => none
     | false => none
    | none => none
   | none => none
theorem In {P : Program} {G : List Nat} {b : bK} {n : Nat} {rs : List ResultVar} {s : RSh} (hh : eo P s.k) {args : List Value} {H : AH} {A1 : List Value} {H1 : AH} {q : List Value × AH} {z : AR} {r : Value × AH}
 (h1 : ax P G (fe b) s.c1 (args ++ List.replicate (n - args.length) undef) H = some (.normal, A1, H1)) (hlt : s.t < A1.length) (h2 : bO P G (fe b) s.ops2 s.om A1 H1 = some q)
 (h3 : ax P G (fe b) s.c3 q.1 q.2 = some z) (h4 : Vp P rs z = some r) : iD P G b n rs s args H = some (.ret r.1, r.2) := by
 unfold iD;rw [h1];simp only [aB];rw [if_neg (by omega), h2];simp only [aB];rw [yc _ h3];simp only [aB];obtain ⟨e, A3, H3⟩ := z;unfold Vp at h4
 cases e with
 | exit i => cases h4
 | normal =>
  obtain ⟨x, hx, e⟩ := au.1 h4;cases e;have hx : bZ P A3 H3 rs = some x := hx;simp only [AE.up];rw [fG hh, hx]; rfl
 | ret =>
  obtain ⟨x, hx, e⟩ := au.1 h4;cases e;have hx : bZ P A3 H3 rs = some x := hx;simp only [AE.up];rw [fG hh, hx]; rfl
section
variable {P : Program} {G : List Nat} {g d N : Nat} {F : List AObj}
theorem VK {D : List Nat} {O : TF} (hG : ∀ b ∈ G, b < g) (hD : ∀ k ∈ D, eo P k) (hO : lO g d F O (aF P G)) : ∀ k, lO g d F (Db P G D O N k) (aF P G) := by
 intro k
 induction k with
 | zero => intro E H f args hR v E' h; cases h
 | succ k ih =>
  intro E H f args hR v E' h;rw [Db] at h;simp only [] at h
  split at h
  ·rename_i r ho
   exact hO E H f args hR v E' (by rw [ho]; exact h)
  split at h
  ·rename_i fn hf
   split at h
   ·cases h
   rename_i hn0
   have hn : fn.name ≠ "runtime.NumGoroutine" := fun e => hn0 (.inl e)
   have hl : fX fn.name = false := by
    cases e : fX fn.name with
    | true => exact absurd (.inr e) hn0
    | false => rfl
   split at h
   ·rename_i c hb
    split at h
    ·rename_i hle
     have hle := Nat.le_of_ble_eq_true hle;obtain ⟨T, hT, h⟩ := ai.1 h
     have hS : St g d fn.ntmps F (T, E) (eB g d args ++ List.replicate (fn.ntmps - (eB g d args).length) undef, H) := by
      refine ⟨⟨by simp; omega, fun t => ?_⟩, hR⟩;rw [afP _ _ _ hT];simp only [eB, List.getElem?_append, dN, W9, List.getElem?_replicate]
      by_cases e : t < args.length
      ·rw [if_pos (show 0 ≤ t ∧ t < 0 + args.length from by omega), if_pos e]
       simp [na e]
      ·rw [if_neg (show ¬ (0 ≤ t ∧ t < 0 + args.length) from by omega), if_neg e]
       have : HX .lf t = undef := rfl;rw [this, vf]
       split <;> rfl
     split at h
     ·obtain ⟨r, hr, h⟩ := ai.1 h
      obtain ⟨r', h1, h2⟩ := F8 hG ih c hS hr;obtain ⟨H', h3, h4⟩ := UF h2 v E' h;refine ⟨H', dH.2 (M3 hf hl (IV hb hn (r := (aY g d v, H')) ?_)), h4⟩;unfold zb;rw [show fe (bF P G) = aF P G from rfl, h1];exact h3
     ·rename_i q hs
      split at h
      ·rename_i hin
       have hh := hD _ (by simpa using hin);unfold U9 at h;obtain ⟨⟨e1, T1, E1⟩, hr, h⟩ := ai.1 h;obtain ⟨⟨e2, A1, H1⟩, h1, h2⟩ := F8 hG ih q.c1 hS hr;have he : e1 = e2 := h2.e;subst he
       cases e1 with
       | exit i => cases h
       | ret => cases h
       | normal =>
        simp only at h
        split at h
        ·rename_i hlt
         have hlt : q.t < fn.ntmps := Nat.le_of_ble_eq_true hlt;have hlen : A1.length = fn.ntmps := h2.st.er.len;obtain ⟨⟨T2, E2⟩, h3, h⟩ := ai.1 h;obtain ⟨⟨A2, H2⟩, h4, h5⟩ := OM hG ih h2.st h3;obtain ⟨z, h6, h⟩ := ai.1 h;obtain ⟨z', h7, h8⟩ := F8 hG ih q.c3 h5 h6;obtain ⟨H', h9, h10⟩ := UF h8 v E' h;refine ⟨H', dH.2 (M3 hf hl ?_), h10⟩;rw [yd hn hb hs];exact In (r := (aY g d v, H')) hh h1 (by omega) h4 h7 h9
        ·cases h
      ·cases h
    ·cases h
   ·cases h
  ·cases h
end
section
variable {P : Program} {w0 : World} {B : Nat} {ρ : aV} {H : AH} {w w' : World}
theorem Rel.grown (h : Rel P w0 B ρ H w) (hb : Below w.heap.size w w') : Rel P w0 B ρ H w' := by
 have hs : w.heap.size ≤ w'.heap.size := hb.size;have hc : ∀ c, c < w.heap.size → w'.heap[c]? = w.heap[c]? := fun c hc => hb.block c hc
 exact ⟨h.base, h.below.trans (hb.mono h.size), h.dom, fun b c d sz e => Nat.lt_of_lt_of_le (h.blk b c d sz e) hs,
  fun b c d sz o e1 e2 => by rw [hc c (h.blk b c d sz e1)]; exact h.obj b c d sz o e1 e2, h.own, h.ro, h.inj⟩
theorem eE.grown (hb : Below w.heap.size w w') : eE ρ H w ρ H w' :=
 ⟨fun _ _ h => h, fun b x h1 h2 => (by rw [h1] at h2; cases h2), cr _, hb.size, fun _ _ _ => rfl, fun _ _ h _ => h, fun c hc _ => hb.block c hc, fun b c d sz h1 h2 => (by rw [h1] at h2; cases h2)⟩
abbrev mY : ByteArray := ⟨#[48]⟩
abbrev XG : ByteArray := ⟨#[32]⟩
abbrev Bv : ByteArray := ⟨#[48, 32, 48, 32, 48, 32, 48, 32, 48]⟩
theorem XM {G : List Nat} {f : Nat} (hfn : ∃ fn, P.funcs[f]? = some fn ∧ fn.body.isSome = true ∧ fn.name ≠ "runtime.NumGoroutine")
 (hj : ∀ (bk o c : Nat) (w : World), (∀ (j : Nat) x, [mY, mY, mY, mY, mY][j]? = some x → w.cell? ⟨bk, o + j, none⟩ = some (.string x)) → bk < w.heap.size → 5 ≤ c →
  Calls P f #[.slice (some ⟨bk, o, none⟩) 5 c, .string XG] w fun e w' => e = .returned (.string Bv) ∧ Below w.heap.size w w')
 {b o : Nat} {ro : Bool} {cs : List Value} (hH : H.get b = some (.cells ro cs)) (hc : ∀ j, j < 5 → cs[o + j]? = some (.string mY)) :
 amN P G f [.slice (some ⟨b, o, none⟩) 5 1, .string XG] H (.string Bv) := by
 refine ⟨hfn, fun w0 B ρ w args' hR hG hl => ?_⟩;obtain ⟨x, hx, hvx⟩ := hl.get (i := 0) (x := .slice (some ⟨b, o, none⟩) 5 1) rfl;obtain ⟨y, hy, hvy⟩ := hl.get (i := 1) (x := .string XG) rfl;have hlen : args'.length = 2 := hl.1.symm
 have ha : args' = [x, y] := by
  match args', hlen, hx, hy with
  | [p, q], _, hx, hy => simp at hx hy; rw [hx, hy]
 subst ha;rw [hvy.string_inv]
 rcases hvx.slice_inv (by omega) with ⟨c, d, sz, a, _, h0, _⟩ | ⟨c, d, sz, k, hb, hk, hn, rfl⟩
 ·cases h0
 obtain ⟨cc, el, fz, hw, _, _, _, hcl⟩ := hR.cells hb hH;refine (hj c (d + o) k w (fun j x hjx => ?_) (hR.blk _ _ _ _ hb) hn).mono ?_
 ·have hj5 : j < 5 := by
   have := (Ab.1 hjx).1
   simpa using this
  have hx0 : x = mY := by
   match j, hj5, hjx with
   | 0, _, h => simpa using h.symm
   | 1, _, h => simpa using h.symm
   | 2, _, h => simpa using h.symm
   | 3, _, h => simpa using h.symm
   | 4, _, h => simpa using h.symm
  subst hx0;obtain ⟨x', hx', hxx⟩ := hcl.get (hc j hj5);have := Kc hw hx';rw [hxx.string_inv] at this;rw [Nat.add_assoc];exact this
 ·rintro e w' ⟨rfl, hbw⟩
  exact ⟨ρ, ⟨_, rfl, .lit rfl⟩, eE.grown hbw, hR.grown hbw⟩
end
def RR (tab : List Value) : Option (Value × EH) → Bool
 | some (.bool true, E) => match E.get 0, E.get 1, E.get 2, E.get 3 with
  | some .dead, some .dead, some .dead, some (.cells true cs) => Gm (eqV 0) cs tab
  | _, _, _, _ => false
 | _ => false
def HY (tab : List Value) : EH := ⟨4, .nd (some .dead) (.nd (some .dead) (.nd (some (.cells true tab)) .lf .lf) .lf) (.nd (some .dead) .lf .lf)⟩
theorem JT (tab : List Value) : ∀ b, (HY tab).get b = match b with | 0 => some .dead | 1 => some .dead | 2 => some .dead | 3 => some (.cells true tab) | _ => none := by
 have e : some (HY tab) = ((((⟨0, .lf⟩ : EH).push .dead).bind fun E => E.push .dead).bind fun E => E.push .dead).bind fun E => E.push (.cells true tab) := rfl
 have hp : ∀ {E E' : EH} {o : AObj}, E.push o = some E' → (∀ b, E'.get b = if b = E.n then some o else E.get b) ∧ E'.n = E.n + 1 := by
  intro E E' o h;obtain ⟨t, h1, rfl⟩ := au.1 h;exact ⟨Tr.get_set _ h1, rfl⟩
 obtain ⟨E3, h3, h4⟩ := ai.1 e.symm;obtain ⟨E2, h2, h3⟩ := ai.1 h3;obtain ⟨E1, h1, h2⟩ := ai.1 h2;obtain ⟨g1, n1⟩ := hp h1;obtain ⟨g2, n2⟩ := hp h2;obtain ⟨g3, n3⟩ := hp h3;obtain ⟨g4, n4⟩ := hp h4;have n1 : E1.n = 1 := n1
 have n2 : E2.n = 2 := by rw [n2, n1]
 have n3 : E3.n = 3 := by rw [n3, n2]
 intro b;rw [g4, n3, g3, n2, g2, n1, g1]
 have lf : (⟨0, .lf⟩ : EH).get b = none := by cases b <;> rfl
 rw [lf]
 match b with
 | 0 => rfl
 | 1 => rfl
 | 2 => rfl
 | 3 => rfl
 | b + 4 =>
  rw [if_neg (by omega), if_neg (by omega), if_neg (by omega), if_neg (by show b + 4 ≠ 0; omega)]
  rfl
theorem Nq {P : Program} {D : List Nat} {O : TF} {N k f : Nat} {tab : List Value} (hD : ∀ k ∈ D, eo P k) (hO : ∀ F : List AObj, lO 4 F.length F O (aF P [3])) (hl : tab.all cO = true) (h : RR tab (Db P [3] D O N k f [] (HY tab)) = true)
 {H : AH} {F : List AObj} (hH : H.objs = [.dead, .dead, .dead, .cells true tab] ++ F) : ∃ H', aF P [3] f [] H = some (.bool true, H') ∧ H.size ≤ H'.size ∧ ∀ i, i < H.size → H'.get i = H.get i := by
 obtain ⟨objs⟩ := H;dsimp only at hH;subst hH
 have hR : HR 4 F.length F (HY tab) ⟨[.dead, .dead, .dead, .cells true tab] ++ F⟩ := by
  refine ⟨rfl, cr _, by simp [AH.size, HY]; omega, fun b => ?_, fun b hb => ?_, fun b h1 h2 => ?_⟩
  ·rw [JT]
   match b with
   | 0 => rfl
   | 1 => rfl
   | 2 => rfl
   | 3 =>
    show some _ = some (AObj.cells true (eB 4 F.length tab));rw [Bt hl]
   | b + 4 =>
    have e : Bs 4 F.length (b + 4) = b + 4 + F.length := by unfold Bs; rw [if_neg (by omega)]
    rw [e];exact AH.get_none (by simp [AH.size]; omega)
  ·have hb : 4 ≤ b := hb
   rw [JT];obtain ⟨b, rfl⟩ : ∃ c, b = c + 4 := ⟨b - 4, by omega⟩
   rfl
  ·obtain ⟨b, rfl⟩ : ∃ c, b = c + 4 := ⟨b - 4, by omega⟩
   simp [AH.get]
 unfold RR at h
 split at h
 ·rename_i E' hE
  obtain ⟨H', h1, h2⟩ := VK (F := F) (N := N) (P := P) (by simp) hD (hO F) k (HY tab) _ f [] hR _ _ hE;refine ⟨H', ?_, ?_, fun i hi => ?_⟩
  ·simpa using h1
  ·rw [h2.size]
   have := h2.le;simp [AH.size]; omega
  ·split at h
   ·rename_i cs h0 h1' h2' h3'
    have he : cs = tab := yj (B0 0) _ _ h;subst he
    match i with
    | 0 =>
     have := h2.get 0;rw [show Bs 4 F.length 0 = 0 from rfl, h0] at this;exact this
    | 1 =>
     have := h2.get 1;rw [show Bs 4 F.length 1 = 1 from rfl, h1'] at this;exact this
    | 2 =>
     have := h2.get 2;rw [show Bs 4 F.length 2 = 2 from rfl, h2'] at this;exact this
    | 3 =>
     have := h2.get 3;rw [show Bs 4 F.length 3 = 3 from rfl, h3'] at this;rw [this];show some (AObj.cells true (eB 4 F.length cs)) = _;rw [Bt hl]; rfl
    | i + 4 =>
     have hi : i < F.length := by simp [AH.size] at hi; omega
     rw [h2.fr (i + 4) (by omega) (by omega)];simp [AH.get]
   ·cases h
 ·cases h
def ap (H : AH) (l : List AObj) : AH := ⟨H.objs ++ l⟩
section
variable {H : AH} {l : List AObj} {i : Nat} {o : AObj}
theorem amS (H : AH) : H = ap H [] := by unfold ap; rw [List.append_nil]
theorem ah6 : (ap H l).push o = ap H (l ++ [o]) := by unfold ap AH.push; rw [List.append_assoc]
theorem ah7 : (ap H l).size = H.size + l.length := by simp [ap, AH.size]
theorem O6 : (ap H l).get (H.size + i) = l[i]? := by
 simp only [ap, AH.get, AH.size];rw [List.getElem?_append_right (by omega)]
 congr 1; omega
theorem amT : (ap H l).set (H.size + i) o = ap H (l.set i o) := by
 simp only [ap, AH.set, AH.size];rw [List.set_append_right _ _ (by omega)]
 congr 3; omega
theorem BQ {R : Type} {cs : List Value} {k : Value → AH → Option R} : bA cs (ap H l) k = k (.pointer (some ⟨H.size + l.length, 0, none⟩)) (ap H (l ++ [.cells false cs])) := by
 unfold bA;rw [ah6, ah7]
theorem O7 {j : Nat} {ro : Bool} {cs : List Value} {v : Value} (h : l[i]? = some (.cells ro cs)) (hv : cs[j]? = some v) : aA (.pointer (some ⟨H.size + i, j, none⟩)) (ap H l) = some v := by
 simp only [aA, uk, dm, aB, O6, h];exact hv
theorem amR {j n : Nat} {ro : Bool} {cs : List Value} (h : l[i]? = some (.cells ro cs)) (hn : j + n ≤ cs.length) : aQ n (.pointer (some ⟨H.size + i, j, none⟩)) (ap H l) = some (.agg ((cs.drop j).take n).toArray) := by
 simp only [aQ, uk, dm, aB, O6, h];rw [if_pos hn]
theorem X9 {j n : Nat} {cs : List Value} {x : Value} (h : l[i]? = some (.cells false cs)) (hx : x.cells.size = n) (hn : j + n ≤ cs.length) (hc : x.cells.toList.all Value.oneCell' = true) :
 fT n (.pointer (some ⟨H.size + i, j, none⟩)) x (ap H l) = some (ap H (l.set i (.cells false (splice cs j x.cells.toList)))) := by
 simp only [fT, uk, aB, O6, h];rw [if_pos ⟨hx, hn, hc⟩, amT]
end
theorem Mb {P : Program} {k : Nat} {fn : Func} (hf : P.funcs[k]? = some fn) (hn : fn.name ≠ "runtime.NumGoroutine") (hr : fn.results = #[]) (hnt : 12 ≤ fn.ntmps)
 {i1 i2 : Nat} {a1 : Array TypeId} {y1 y2 y3 y4 y5 y6 y7 y8 : TypeId} {p1 p2 p3 p4 p5 p6 p7 p8 : String} {e1 e2 e3 e4 e5 e6 e7 e8 : Array Edge} {xt at' : TypeId} {x : Code} {z : Value}
 (hb : fn.body = some (.seq (.region i1 #[⟨some 6, .call ⟨.builtin .recover, #[], a1⟩, y1, p1, e1, none⟩, ⟨some 7, .typeAssert (.tmp 6) xt at' true, y2, p2, e2, none⟩, ⟨some 5, .move (.tmp 7), y3, p3, e3, none⟩,
  ⟨some 8, .extract (.tmp 5) 0, y4, p4, e4, none⟩, ⟨some 9, .extract (.tmp 5) 1, y5, p5, e5, none⟩, ⟨some 3, .assign (.tmp 8), y6, p6, e6, none⟩, ⟨some 4, .assign (.tmp 9), y7, p7, e7, none⟩] false)
  (.seq (.region i2 #[⟨some 10, .move (.tmp 4), y8, p8, e8, none⟩] false) (.cond (.tmp 10) x .skip))))
 (hz : ∀ w, (Instr.typeAssert .nilIface xt at' true).run P w = .ok (.tuple #[z, .bool false]) w) : eo P k := by
 refine ⟨⟨fn, hf, by rw [hb]; rfl, hn⟩, fun args w => callsD_of_wpS hf hb fun c0 cs hm => ?_⟩
 have hsz : 12 ≤ (args ++ Array.replicate (fn.ntmps - args.size) undef).size := by simp; omega
 generalize args ++ Array.replicate (fn.ntmps - args.size) undef = T at hsz
 refine wpS_seq (wpS_region ?_)
 have hs : ∀ a : Act, a.tmps.size = T.size → ∀ j, j < 12 → j < a.tmps.size := fun a h j hj => by omega
 have hrec : recoverD (c0 :: cs) = none := by simp [recoverD, hm]
 have rng : List.range (7 : Nat) = [0, 1, 2, 3, 4, 5, 6] := rfl;have rng1 : List.range (1 : Nat) = [0] := rfl
 have h4 : 6 < T.size := by omega
 have h4 : 6 < T.size := by omega
 simp only [List.size_toArray, List.length_cons, List.length_nil, Nat.zero_add, Nat.reduceAdd, rng];refine Vj (o := ⟨some 6, .call ⟨.builtin .recover, #[], a1⟩, y1, p1, e1, none⟩) rfl rfl rfl hrec ?_;refine di (o := ⟨some 7, .typeAssert (.tmp 6) xt at' true, y2, p2, e2, none⟩) (v := .tuple #[z, .bool false]) rfl rfl ?_ ?_
 ·have e : (({ tmps := T, defers := [] } : Act).put (some 6) .nilIface).eval (.tmp 6) = .nilIface := ef h4
  simp only [execOp, e, Sem.run_bind, hz, Result.andThen_ok, Sem.run_pure]
 refine di (o := ⟨some 5, .move (.tmp 7), y3, p3, e3, none⟩) (v := .tuple #[z, .bool false]) rfl rfl ?_ ?_
 ·exact MX (ef (hs _ (by simp only [dX]) 7 (by omega)))
 refine di (o := ⟨some 8, .extract (.tmp 5) 0, y4, p4, e4, none⟩) (v := z) rfl rfl ?_ ?_
 ·exact ahQ (ef (hs _ (by simp only [dX]) 5 (by omega)))
 refine di (o := ⟨some 9, .extract (.tmp 5) 1, y5, p5, e5, none⟩) (v := .bool false) rfl rfl ?_ ?_
 ·exact ahR ((Je (by decide)).trans (ef (hs _ (by simp only [dX]) 5 (by omega))))
 refine di (o := ⟨some 3, .assign (.tmp 8), y6, p6, e6, none⟩) (v := z) rfl rfl ?_ ?_
 ·exact BJ ((Je (by decide)).trans (ef (hs _ (by simp only [dX]) 8 (by omega))))
 refine di (o := ⟨some 4, .assign (.tmp 9), y7, p7, e7, none⟩) (v := .bool false) rfl rfl ?_ ?_
 ·exact BJ ((Je (by decide)).trans (ef (hs _ (by simp only [dX]) 9 (by omega))))
 show (Code.seq _ _).wpS P _ _ _ _;refine wpS_seq (wpS_region ?_);simp only [List.size_toArray, List.length_cons, List.length_nil, Nat.zero_add, rng1];refine di (o := ⟨some 10, .move (.tmp 4), y8, p8, e8, none⟩) (v := .bool false) rfl rfl ?_ ?_
 ·exact MX (ef (hs _ (by simp only [dX]) 4 (by omega)))
 show (Code.cond _ _ _).wpS P _ _ _ _;refine wpS_cond (t := false) (ef (hs _ (by simp only [dX]) 10 (by omega))) ?_;simp only [Bool.false_eq_true, if_false];refine wpS_of_wp (wp_skip ?_);refine ⟨by simp only [Gc], .returning, by rw [← hm], .tuple #[], ?_, ⟨_, rfl⟩, rfl, rfl⟩;simp [results, hr]
theorem OZ {P : Program} {xt at' : TypeId} {k : IntKind} {z : Value} (h : P.underlying at' = some (.int k)) (hz : bq P at' = some z) (w : World) : (Instr.typeAssert .nilIface xt at' true).run P w = .ok (.tuple #[z, .bool false]) w := by
 simp [Instr.typeAssert, EF h w, fS hz w]
theorem afN : eo PP Ef :=
 N5 (z := .int .i64 0) (xt := 20) (at' := 32) Tryz.func338 (by decide) (by kernel_rfl) (by decide) (by rfl) (fun w => OZ (k := .i64) (by kernel_rfl) (by kernel_rfl) w)
theorem Ch : eo PP bd :=
 Mb (z := .int .i64 0) (xt := 20) (at' := 32) Tryz.func52 (by decide) (by kernel_rfl) (by decide) (by rfl) (fun w => OZ (k := .i64) (by kernel_rfl) (by kernel_rfl) w)
abbrev amD : ByteArray := ⟨#[49, 50]⟩
theorem U7 (H : AH) : FB aX [vi 0] H = some (.iface 1 (.string mY), H) := gh _ _ (by kernel_rfl)
theorem ag7 (H : AH) : FB aX [vi 12] H = some (.iface 1 (.string amD), H) := gh _ _ (by kernel_rfl)
theorem aj2 {n : Int} {s : ByteArray} {H : AH} (h1 : 0 ≤ n) (h2 : n < 100) (hs : FB aX [vi n] H = some (.iface 1 (.string s), H)) : FB dl [vi n, vi 10] H = some (.iface 1 (.string s), H) := by
 refine kI _ _ H ?_;rw [iR];rw [show ag .other .eql (vi 10) (vi 10) = some (vb true) from rfl];simp only [aB];rw [iS]
 have e1 : ag .other .leq (vi 0) (vi n) = some (vb true) := by simp [ag, j9, h1]
 have e2 : ag .other .lss (vi n) (vi 100) = some (vb true) := by simp [ag, j9, h2]
 have e3 : ∀ {x y : OV}, aw (vb true) x y = x := rfl;have e4 : ∀ {R : Type} {v : Value} {k : Value → Option R}, (gV (vb true) true v).bind k = k v := rfl;have e5 : ∀ {R : Type} {v : Value} {k : Value → Option R}, (gB (vb true) true (some v)).bind k = k v := rfl;have e6 : ∀ {R : Type} {v : Value} {k : Value → Option R}, (aE (vb true) v (vb false)).bind k = k v := rfl;rw [e3, e1, aB, e4, e2, e5, e6, e3, hs]
 rfl
theorem UL {n : Int} {s : ByteArray} {H : AH} (h1 : 0 ≤ n) (h2 : n < 100) (hs : FB aX [vi n] H = some (.iface 1 (.string s), H)) : FF mB [vi n] H = some (.string s, H) := by
 refine JY.1 (ED _ H ?_);rw [oy _ H (r := (.iface 1 (.string s), H)) (by rw [aj2 h1 h2 hs]; rfl)]
 rfl
theorem aj3 {H : AH} : FF fK [vu 0, vi 10] H = some (.string mY, H) := by
 refine JY.1 (sM _ _ H ?_);rw [jY _ _ H (r := (.iface 1 (.string mY), H)) ?_]
 ·rfl
 ·show (FB aX [vi 0] H).bind _ = _
  rw [U7]
  rfl
abbrev zeroP : List Value := [vi 0, vi 0, vi 0, vi 0, vw 0, .slice none 0 0]
noncomputable def csh : CSh := (Ke (bh Tryz.f52)).getD ⟨0, #[], ⟨none, .panic (.tmp 0), 0, "", #[], none⟩, ⟨none, .panic (.tmp 0), 0, "", #[], none⟩, [], 0, 0, 0, 0, .skip⟩
section
variable {y0 y1 y2 c : Value} {H : AH}
theorem an6 : i4 PP GG bd [y0, y1, y2] (.iface 32 c) H = Oe PP GG 13 csh [y0, y1, y2] (.iface 32 c) H := by
 unfold i4;rw [show PP.funcs[bd]? = _ from Tryz.func52]
 kernel_rfl
theorem an7 : Oe PP GG 13 csh [y0, y1, y2] (.iface 32 c) H = (bJ PP GG gu csh.ops csh.rest [y0, y1, y2, undef, undef, undef, .iface 32 c, .tuple #[c, .bool true], undef, undef, undef, undef, undef] H).bind fun q => (ax PP GG gu csh.c2 q.1 q.2).bind fun r => match r.1 with
 | .exit _ => none
 | _ => some r.2.2 := by kernel_rfl
theorem an8 : bJ PP GG gu csh.ops csh.rest [y0, y1, y2, undef, undef, undef, .iface 32 c, .tuple #[c, .bool true], undef, undef, undef, undef, undef] H = some ([y0, y1, y2, c, .bool true, .tuple #[c, .bool true], .iface 32 c, .tuple #[c, .bool true], c, .bool true, undef, undef, undef], H) := by kernel_rfl
theorem an9 : aM PP GG gu csh.c2 [y0, y1, y2, c, .bool true, .tuple #[c, .bool true], .iface 32 c, .tuple #[c, .bool true], c, .bool true, undef, undef, undef] H (fun _ H => some H) (fun _ _ _ => none) (fun _ H => some H) = (fT 6 y0 (.agg zeroP.toArray) H).bind fun H => (fT 1 y1 (.slice none 0 0) H).bind fun H => (fT 1 y2 c H).bind fun H => some H := by kernel_rfl
theorem JB : i4 PP GG bd [y0, y1, y2] (.iface 32 c) H = (fT 6 y0 (.agg zeroP.toArray) H).bind fun H => (fT 1 y1 (.slice none 0 0) H).bind fun H => (fT 1 y2 c H).bind some := by
 rw [an6, an7, an8, aB];refine Eq.trans ?_ (an9 (y0 := y0) (y1 := y1) (y2 := y2) (c := c) (H := H));rw [oY]
 congr 1
 funext r
 obtain ⟨e, A1, H1⟩ := r
 cases e <;> rfl
end
abbrev U0 (b : Nat) : Value := .pointer (some ⟨b, 0, none⟩)
abbrev UY : Value := .iface 0 (.iface 32 (vi 12))
theorem RP {b : Nat} {K : AH} (h : aA (U0 b) K = some (.slice none 0 0)) : FB dq [U0 b] K = some (UY, K) := by
 refine ir _ K ?_;rw [fP, dJ];show (aA (U0 b) K).bind _ = _;rw [h]
 rfl
theorem XF {b : Nat} {K : AH} (h : aA (U0 b) K = some (.slice none 0 0)) : FB az [U0 b, vi 1, vi 4] K = some (UY, K) := by
 refine ju _ _ _ K ?_;rw [show aO (some .u64) (vi 1) = some (vu 1) from rfl, show aO (some .u64) (vi 4) = some (vu 4) from rfl];simp only [aB];rw [ix _ _ _ K (r := (UY, K)) (by rw [RP h]; rfl)]
 rfl
theorem agN {H : AH} {l : List AObj} {i : Nat} (h : l[i]? = some (.cells false [.slice none 0 0])) : FB cZ [U0 (H.size + i)] (ap H l) = some (UY, ap H (l ++ [.cells false zeroP] ++ [.cells false zeroP])) := by
 refine jR _ _ ?_;rw [BQ, BQ];show (FB az [U0 (H.size + i), vi 1, vi 4] _).bind _ = _;rw [XF]
 ·rfl
 ·refine O7 (ro := false) (cs := [.slice none 0 0]) ?_ rfl
  rw [List.getElem?_append_left, List.getElem?_append_left, h]
  ·have := (Ab.1 h).1; omega
  ·have := (Ab.1 h).1; simp; omega
theorem agU (H : AH) : FF gD [.slice none 0 0] H = some (.tuple #[.agg zeroP.toArray, .slice none 0 0, vi 12], ap H [.cells false zeroP, .cells false [.slice none 0 0], .cells false [vi 12], .cells false [.slice none 0 0], .cells false zeroP, .cells false zeroP]) := by
 refine vc _ H Ch ?_
 have e0 : bA zeroP H = bA (R := Value × AH) zeroP (ap H []) := by rw [← amS]
 rw [e0, BQ, BQ, BQ, lN];have e1 : ∀ {k : Value → OV}, wn [(0, 1)] [(.slice none 0 0)] [(0, .slice none 0 0)] k = k (.agg #[.slice none 0 0]) := rfl;rw [e1];show bA [.slice none 0 0] _ _ = _;rw [BQ];show (FB cZ [U0 (H.size + 3)] (ap H [.cells false zeroP, .cells false [.slice none 0 0], .cells false [vi 0], .cells false [.slice none 0 0]])).bind _ = _;rw [agN rfl];show (i4 PP GG bd [U0 (H.size + 0), U0 (H.size + 1), U0 (H.size + 2)] (.iface 32 (vi 12)) (ap H [.cells false zeroP, .cells false [.slice none 0 0], .cells false [vi 0], .cells false [.slice none 0 0], .cells false zeroP, .cells false zeroP])).bind _ = _;rw [JB, X9 (n := 6) (i := 0) (j := 0) (cs := zeroP) (x := .agg zeroP.toArray) rfl rfl (by decide) rfl, aB, X9 (n := 1) (i := 1) (j := 0) (cs := [.slice none 0 0]) (x := .slice none 0 0) rfl rfl (by decide) rfl, aB, X9 (n := 1) (i := 2) (j := 0) (cs := [vi 0]) (x := vi 12) rfl rfl (by decide) rfl, aB, aB];show (aQ 6 (U0 (H.size + 0)) (ap H [.cells false zeroP, .cells false [.slice none 0 0], .cells false [vi 12], .cells false [.slice none 0 0], .cells false zeroP, .cells false zeroP])).bind _ = _;rw [amR (n := 6) (i := 0) (j := 0) (cs := zeroP) (ro := false) rfl (by decide), aB];show (aA (U0 (H.size + 1)) _).bind _ = _;rw [O7 (i := 1) (j := 0) (cs := [.slice none 0 0]) (ro := false) rfl rfl, aB];show (aA (U0 (H.size + 2)) _).bind _ = _;rw [O7 (i := 2) (j := 0) (cs := [vi 12]) (ro := false) rfl rfl, aB]
 rfl
def Dec {α : Type} (p : Ps α) : Prop := ∀ L a r, p L = .ok (a, r) → r.length ≤ L.length
theorem iJ (lo hi : Nat) : Dec (fM lo hi) := fun L a r h => Nat.le_of_lt (dU h)
theorem mg {α : Type} (x : α) : Dec (dV x) := fun L a r h => by cases h; exact cr _
theorem cW {α β : Type} {p : Ps α} {f : α → Ps β} (h1 : Dec p) (h2 : ∀ a, Dec (f a)) : Dec (aZ p f) := by
 intro L b r h;unfold aZ at h
 split at h
 ·rename_i a r' e
  have := h1 _ _ _ e;have := h2 a _ _ _ h;omega
 ·cases h
theorem Nv {α : Type} {p : Ps α} (h : Dec p) : ∀ k, Dec (dA p k)
 | 0 => mg []
 | k + 1 => cW h fun a => cW (Nv h k) fun ys => mg _
theorem YE : Dec iG := cW (iJ _ _) fun _ => cW (iJ _ _) fun _ => cW (iJ _ _) fun _ => cW (iJ _ _) fun _ => mg _
theorem I7 : ∀ w left, Dec (dG w left)
 | 0, _ => mg []
 | w + 1, left => cW (iJ _ _) fun n => cW (Nv YE n) fun l => cW (I7 w (left - n)) fun ls => mg _
theorem YG : Dec ul := cW (cW (iJ _ _) fun _ => cW (iJ _ _) fun _ => cW (iJ _ _) fun _ => cW (iJ _ _) fun _ => cW (iJ _ _) fun _ => mg _) fun c => cW (iJ _ _) fun n => cW (I7 n 60) fun ls => mg _
def da (P : SP) (res : Except Int ScN) (r : Value) (H' : AH) : Prop :=
 match res with
 | .ok s => ∃ (sv : Sv) (ps : List (Sv × List Cl)) (pv : Value), r = .tuple #[.agg (aK (lk s.c) sv.v).toArray, pv, vi 0] ∧ ps.map (·.2) = Od s.ls ∧ ac (jx sv.v ps * (ts 1 bz pv (s.pk.map fun n : Nat => (n : Int)) * P)) H'
 | .error e => r = .tuple #[.agg zeroP.toArray, .slice none 0 0, vi e] ∧ ac P H'
section
variable {R : SP} {y0 y1 y2 b : Nat}
def Fo (y0 y1 y2 : Nat) (c0 : List Value) (c1 c2 : Value) (Z : SP) : SP := blk y0 (.cells false c0) * (blk y1 (.cells false [c1]) * (blk y2 (.cells false [c2]) * Z))
theorem Mt {c0 : List Value} {c1 c2 : Value} {Z X : SP} {e : Int} {H : AH} {res : Except Int ScN} (hres : res = .error e) (hc0 : c0.length = 6) (h : ac (Fo y0 y1 y2 c0 c1 c2 Z) H) (hZ : Z = X * R) :
 wp ((i4 PP GG bd [vp y0, vp y1, vp y2] (.iface 32 (vi e)) H).bind fun H4 => (aQ 6 (vp y0) H4).bind fun a => (aA (vp y1) H4).bind fun b => (aA (vp y2) H4).bind fun c => some (Value.tuple #[a, b, c], H4)) (da R res) := by
 subst hres;rw [JB];simp only [Option.bind_assoc, aB];unfold Fo at h
 match c0, hc0, h with
 | [a0, a1, a2, a3, a4, a5], _, h =>
  refine cS h rfl rfl fun H1 h1 => ?_;refine cS h1 rfl rfl fun H2 h2 => ?_;refine cS h2 rfl rfl fun H3 h3 => ?_;refine bx h3 ?_;refine dK h3 rfl ?_;refine dK h3 rfl ?_;refine ay ⟨rfl, ?_⟩;rw [hZ] at h3;exact h3.right.right.right.right
theorem agS {sv : Sv} {ps : List (Sv × List Cl)} {c : CfN} {ls : List (List nq)} {pk : List Nat} {pv v : Value} {L : List Nat} {H : AH} (hps : ps.map (·.2) = Od ls) (r : Rd R v 1 aG L)
 (h : ac (Fo y0 y1 y2 (aK (lk c) sv.v) pv (vi 0) (jx sv.v ps * (ts 1 bz pv (pk.map fun n : Nat => (n : Int)) * (blk b (.cells false [v]) * R)))) H) :
 wp (mP (vp y0) (vp y1) (vp y2) (vp y0) (vp y1) (vp y2) (vp b) H) (da R (match L with | [] => .ok ⟨c, ls, pk⟩ | _ :: _ => .error 11)) := by
 refine ae (Bp _ _ _ _ _ _ _ H) ?_;have h' := h;unfold Fo at h';refine aL h' bn rfl ?_;refine aS (s := v) (l := L) h' ?_
 cases L with
 | cons y L =>
  refine aa (iQ (by simp only [List.length_cons]; omega)) ?_;refine gs ?_;dsimp only [On];refine Mt (X := jx sv.v ps * (ts 1 bz pv (pk.map fun n : Nat => (n : Int)) * blk b (.cells false [v]))) rfl rfl h ?_;simp only [aC]
 | nil =>
  refine aa (iP (by simp)) ?_;refine gs ?_;refine ae (Bq _ _ _ _ _ _ H) ?_;have h2 : ac (ts 1 bz pv (pk.map fun n : Nat => (n : Int)) * (blk y0 (.cells false (aK (lk c) sv.v)) * (blk y1 (.cells false [pv]) * (blk y2 (.cells false [vi 0]) * (jx sv.v ps * (blk b (.cells false [v]) * R)))))) H := h'.to;obtain ⟨sp, rfl⟩ := Vd h2;refine bx h' ?_;refine dK h' rfl ?_;refine cS h' rfl rfl fun H5 h5 => ?_;refine ci h5 h' rfl ?_;refine cS h5 rfl rfl fun H6 h6 => ?_;refine cS h6 rfl rfl fun H7 h7 => ?_;refine bx h7 ?_;refine dK h7 rfl ?_;refine dK h7 rfl ?_;refine ay ⟨sv, ps, sp.v, rfl, hps, ?_⟩;exact h7.to
theorem RV {sv : Sv} {ps : List (Sv × List Cl)} {c : CfN} {ls : List (List nq)} (hps : ps.map (·.2) = Od ls) {k : Nat} (hk : k ≤ 4000) : ∀ (d i : Nat) (pk : List Nat) (pv v : Value) (L : List Nat) (H : AH), i + d = k → pk.length = i → Rd R v 1 aG L → (∀ y ∈ L, y < 256) → (L.length : Int) < 9223372036854775808 →
 ac (Fo y0 y1 y2 (aK (lk c) sv.v) pv (vi 0) (jx sv.v ps * (ts 1 bz pv (pk.map fun n : Nat => (n : Int)) * (blk b (.cells false [v]) * R)))) H →
 wp (gS (vp y0) (vp y1) (vp y2) (vp y0) (vp y1) (vp y2) (vp b) (vi k) (vi i) H) (da R (match dA (fM 0 63) d L with | .ok (qs, []) => .ok ⟨c, ls, pk ++ qs⟩ | .ok (_, _ :: _) => .error 11 | .error e => .error e)) := by
 intro d
 induction d with
 | zero =>
  intro i pk pv v L H hi hp r hL hlen h;refine ae (mQ _ _ _ _ _ _ _ _ _ H) ?_;refine aa (aU (by omega)) ?_;refine gs ?_;refine ae (u6 _ _ _ _ _ _ _ H) ?_;have := agS (c := c) hps r h
  show wp _ (da R (match (Except.ok ([], L) : Except Int (List Nat × List Nat)) with | .ok (qs, []) => .ok ⟨c, ls, pk ++ qs⟩ | .ok (_, _ :: _) => .error 11 | .error e => .error e))
  cases L with
  | nil => simpa using this
  | cons y L => exact this
 | succ d ih =>
  intro i pk pv v L H hi hp r hL hlen h;refine ae (mQ _ _ _ _ _ _ _ _ _ H) ?_;refine aa (aW (by omega)) ?_;refine gs ?_;refine ae (yU _ _ _ _ _ _ _ _ _ H) ?_;have h' := h;unfold Fo at h';refine dK h' rfl ?_
  have h2 : ac (blk b (.cells false [v]) * ((Fo y0 y1 y2 (aK (lk c) sv.v) pv (vi 0) (jx sv.v ps * ts 1 bz pv (pk.map fun n : Nat => (n : Int)))) * R)) H := by
   unfold Fo;exact h'.to
  obtain ⟨rv, H3, e3, hq⟩ := gf 0 63 (by omega) (by omega) r hL hlen h2;rw [show FB az [vp b, vi 0, vi 63] H = some (rv, H3) from e3];unfold dA aZ;unfold m5 at hq
  cases hn : fM 0 63 L with
  | error er =>
   rw [hn] at hq;obtain ⟨v', rfl, h3⟩ := hq;dsimp only [aB, dO];show wp ((i4 PP GG bd [vp y0, vp y1, vp y2] (.iface 32 (vi er)) H3).bind _) _
   have h4 : ac (Fo y0 y1 y2 (aK (lk c) sv.v) pv (vi 0) ((jx sv.v ps * (ts 1 bz pv (pk.map fun n : Nat => (n : Int)) * blk b (.cells false [v']))) * R)) H3 := by
    unfold Fo at h3 ⊢;exact h3.to
   exact Mt rfl rfl h4 rfl
  | ok p =>
   obtain ⟨n, rest⟩ := p;rw [hn] at hq;obtain ⟨z, v', rfl, k1, q1, h3⟩ := hq;obtain ⟨⟨rfl, _⟩, h4⟩ := ac.pu.1 h3;have hF : FF az [vp b, vi 0, vi 63] H = some (vi n, H3) := JY.1 e3;show wp ((aA (vp y1) H).bind _) _;refine dK h' rfl ?_;rw [hF];show wp (ic (aA (vp y1) H3) (aA (vp y1) H) _) _;unfold Fo at h4;refine ci h4 h' rfl ?_;have hl := dU hn;refine IP h4 fun b0 H5 h5 => ?_;refine d8 (s := pv) (l := pk.map fun n : Nat => (n : Int)) (n : Int) h5 rfl ?_ (by omega) fun a cc H6 h6 => ?_
   ·unfold cg; simp only [dN]; omega
   refine cS h6 rfl rfl fun H7 h7 => ?_;refine ae (yV _ _ _ _ _ _ _ _ _ H7) ?_;refine aa (aq (by omega) (by omega)) ?_
   have h8 : ac (Fo y0 y1 y2 (aK (lk c) sv.v) (.slice a ((pk.map fun n : Nat => (n : Int)).length + 1) cc) (vi 0) (jx sv.v ps * (ts 1 bz (.slice a ((pk.map fun n : Nat => (n : Int)).length + 1) cc) ((pk ++ [n]).map fun n : Nat => (n : Int)) * (blk b (.cells false [v']) * R)))) H7 := by
    unfold Fo;rw [Ac, List.map_singleton];exact h7.to
   have := ih (i + 1) (pk ++ [n]) _ v' rest H7 (by omega) (by simp; omega) k1 q1 (by omega) h8;refine cast ?_ this
   congr 1
   congr 1
   dsimp only
   cases dA (fM 0 63) d rest with
   | ok p =>
    obtain ⟨qs, r'⟩ := p
    cases r' with
    | nil => simp [dV]
    | cons y r' => rfl
   | error e => rfl
theorem agT {v : Value} {L : List Nat} {H : AH} (r : Rd R v 1 aG L) (hL : ∀ y ∈ L, y < 256) (hlen : (L.length : Int) < 9223372036854775808) (h : ac R H) :
 wp (FF gD [v] H) (da R (bC L)) := by
 have hsv : ∃ s : Sv, v = s.v := by
  obtain ⟨_, ⟨a, c, rfl, _⟩ | ⟨b, o, ro, row, rfl, _⟩⟩ := r.rd h
  ·exact ⟨⟨_, _, _⟩, rfl⟩
  ·exact ⟨⟨_, _, _⟩, rfl⟩
 obtain ⟨s, rfl⟩ := hsv;refine eD (fun r => vc _ H Ch) ?_;refine ce h fun y0 H1 h1 => ?_;refine ce h1 fun y1 H2 h2 => ?_;refine ce h2 fun y2 H3 h3 => ?_;refine ae (lN _ _ _ _ _ _ _ H3) ?_;refine xW (cs := [s.v]) rfl ?_;refine bH h3 fun b H4 h4 => ?_
 have h5 : ac (blk b (.cells false [s.v]) * (Fo y0 y1 y2 [vi 0, vi 0, vi 0, vi 0, vw 0, .slice none 0 0] (.slice none 0 0) (vi 0) emp * R)) H4 := by
  unfold Fo;exact h4.to
 unfold bC OB aZ;refine qn (agM r hL hlen h5) (fun p rest z v' J e k1 q1 j => ?_) (fun e v' J e1 j => ?_)
 ·obtain ⟨c, ls⟩ := p
  rw [e];dsimp only [dO];unfold mH at j;obtain ⟨⟨sv, ps⟩, j1⟩ := ac.ex.1 j;rw [aC, ac.pu] at j1;obtain ⟨⟨hz, hps⟩, j2⟩ := j1;dsimp only at hz hps j2;subst hz;unfold Fo at j2;refine cS j2 rfl rfl fun J3 j3 => ?_;refine ae (Bo _ _ _ _ _ _ _ J3) ?_;have hl1 := YG _ _ _ e
  have j4 : ac (blk b (.cells false [v']) * (Fo y0 y1 y2 (aK (lk c) sv.v) (.slice none 0 0) (vi 0) (jx sv.v ps) * R)) J3 := by
   unfold Fo;exact j3.to
  refine qn (gf 0 4000 (by omega) (by omega) k1 q1 (by omega) j4) (fun k rest2 z v2 J5 e2 k2 q2 j5 => ?_) (fun er v2 J5 e2 j5 => ?_)
  ·obtain ⟨⟨rfl, _⟩, j6⟩ := ac.pu.1 j5
   rw [e2];dsimp only [dO];have hl2 := dU e2;have hk := j8 e2;refine ae (yT _ _ _ _ _ _ _ _ _ J5) ?_
   have j7 : ac (Fo y0 y1 y2 (aK (lk c) sv.v) (.slice none 0 0) (vi 0) (jx sv.v ps * (ts 1 bz (.slice none 0 0) (([] : List Nat).map fun n : Nat => (n : Int)) * (blk b (.cells false [v2]) * R)))) J5 := by
    have t := fR 1 bz j6;unfold Fo at t ⊢;rw [List.map_nil];exact t.to
   have := RV (c := c) hps (k := k) (by omega) k 0 [] (.slice none 0 0) v2 rest2 J5 (by omega) rfl k2 q2 (by omega) j7;refine cast ?_ this
   congr 1
   congr 1
   cases dA (fM 0 63) k rest2 with
   | ok p =>
    obtain ⟨qs, r'⟩ := p
    cases r' with
    | nil => simp [dV]
    | cons y r' => rfl
   | error e => rfl
  ·rw [e2]
   dsimp only [dO];refine Mt (X := blk b (.cells false [v2]) * jx sv.v ps) rfl rfl (?_ : ac (Fo y0 y1 y2 (aK (lk c) sv.v) (.slice none 0 0) (vi 0) ((blk b (.cells false [v2]) * jx sv.v ps) * R)) J5) rfl;unfold Fo at j5 ⊢;exact j5.to
 ·rw [e1]
  dsimp only [dO];refine Mt (X := blk b (.cells false [v'])) rfl rfl (?_ : ac (Fo y0 y1 y2 [vi 0, vi 0, vi 0, vi 0, vw 0, .slice none 0 0] (.slice none 0 0) (vi 0) (blk b (.cells false [v']) * R)) J) rfl;unfold Fo at j ⊢;exact j.to
end
section
variable (x0 x1 x2 x3 x4 x5 x8 x9 x10 x11 x12 x13 x14 x15 : Value) (H : AH)
theorem yA {r : Value × AH} (h : (
 bA (Value.cells x1).toList H fun b o =>
 (aQ 5 b o).bind fun z =>
 (FF gC [z] o).bind fun p =>
 (fT 5 b p.1 p.2).bind fun A =>
 st 1 [.f 4] b x0 A fun q =>
 (aQ 5 b q).bind fun B =>
 wn [(0, 5), (5, 1)] [(vi 0), (vi 0), (vi 0), (vi 0), (vw 0), (.slice none 0 0)] [(0, B)] fun C =>
 bA [(vi 0), (vi 0), (vi 0), (vi 0), (vw 0), (.slice none 0 0)] q fun s D =>
 (fT 6 s C D).bind fun t =>
 (aQ 6 s t).bind fun E =>
 (FF cJ [E, (.slice none 0 0)] t).bind fun c =>
 (ar c.1 0).bind fun w =>
 (ar c.1 1).bind fun y =>
 (ag .other .lss x0 (vw 1)).bind fun l =>
 (gV l false x0).bind fun G =>
 (gB l false (ag .other .gtr G (vw 4611686018427387904))).bind fun I =>
 (aE l (vb true) I).bind fun J =>
 aw J
 ((FF bB [] c.2).bind fun d =>
 (gV d.1 true y).bind fun K =>
 (gB d.1 true (ag .other .eql K (vi 1))).bind fun L =>
 (aE d.1 L (vb false)).bind fun e =>
 (gV e true w).bind fun M =>
 (za (yv e) true (cB M some) (some undef)).bind fun N =>
 (gB e true (ag .other .eql N (vi 0))).bind fun O =>
 (aE e O (vb false)).bind fun P =>
 some (P, d.2))
 ((FF ba [w] c.2).bind fun g =>
 (ar g.1 0).bind fun Q =>
 (ar g.1 1).bind fun R =>
 (ar g.1 2).bind fun S =>
 bA [(vi 0), (vi 0), (vi 0), (vi 0), (vw 0), (.slice none 0 0)] g.2 fun m T =>
 (fT 6 m Q T).bind fun U =>
 (FF bB [] U).bind fun a =>
 (gV a.1 true y).bind fun V =>
 (gB a.1 true (ag .other .eql V (vi 0))).bind fun W =>
 (aE a.1 W (vb false)).bind fun n =>
 (gV n true S).bind fun X =>
 (gB n true (ag .other .eql X (vi 0))).bind fun Y =>
 (aE n Y (vb false)).bind fun i =>
 sq i true  5 [.f 0] m a.2 fun Z =>
 (gB i true (aQ 5 b a.2)).bind fun a0 =>
 (gB i true (ag (.flat 5) .eql Z a0)).bind fun a1 =>
 (aE i a1 (vb false)).bind fun j =>
 lp j true  [.f 5] m a.2 fun a2 =>
 (za (yv j) true (cB a2 some) (some undef)).bind fun a3 =>
 (gB j true (ag .other .eql a3 (vi 0))).bind fun a4 =>
 (aE j a4 (vb false)).bind fun k =>
 (gV k true R).bind fun a5 =>
 (za (yv k) true (cB a5 some) (some undef)).bind fun a6 =>
 (gB k true (ag .other .eql a6 (vi 0))).bind fun a7 =>
 (aE k a7 (vb false)).bind fun a8 =>
 some (a8, a.2))) = some r) : FF fv [x0, x1] H = some r :=
 fo Tryz.func4 (by kernel_rfl) h
noncomputable def qD (p : List Nat) : Code := Code.sub (bh Tryz.f5) p
noncomputable def qE : KK := ed PP (Tryz.f5).results.toList
noncomputable def alI : KK := CQ (qD [1, 1, 1, 1]) qE bg qE
noncomputable def nK : OV := alI (ls [u, x1, x2, x3, x4, u, u, u, x8, x9] 151) H
noncomputable def ac1 : KK := CQ (qD [1, 1, 1, 1, 1]) qE bg qE
noncomputable def alG : KK := bX SG ac1
noncomputable def iZ : OV := ac1 (ls [u, x1, x2, x3, u, u, u, u, x8, x9] 151) H
noncomputable def alJ : KK := CQ (qD [1, 1, 1, 1, 1, 1]) qE bg qE
noncomputable def nL : OV := alJ (ls [u, x1, x2, x3, u, u, u, u, x8, x9, u, x11] 149) H
noncomputable def ac2 : KK := CQ (qD [1, 1, 1, 1, 1, 1, 1]) qE bg qE
noncomputable def alH : KK := bX M5 ac2
noncomputable def fq : OV := ac2 (ls [u, x1, x2, x3, u, u, u, u, x8, x9, u, x11] 149) H
noncomputable def ac3 : KK := CQ (qD [1, 1, 1, 1, 1, 1, 0, 1]) alH bg qE
noncomputable def mo : OV := ac3 (ls [u, x1, x2, x3, u, u, u, u, x8, x9, u, x11, x12] 148) H
noncomputable def Q5 : KX := BX 2 alH bg
noncomputable def LQ : KX := iz M5 (Q5)
noncomputable def Q1 : KK := qq (qD [1, 1, 1, 1, 1, 1, 0, 1, 4, 5]) LQ qE
noncomputable def acZ : KK := bX Pi Q1
noncomputable def eQ : OV := Q1 (ls [u, x1, x2, x3, u, u, u, u, x8, x9, u, x11, x12] 148) H
noncomputable def ac5 : KK := CQ (qD [1, 1, 1, 1, 1, 1, 0, 1, 4, 5, 1]) acZ LQ qE
noncomputable def mp : OV := ac5 (ls [u, x1, x2, x3, u, u, u, u, x8, x9, u, x11, x12] 148) H
noncomputable def Q2 : KK := CQ (qD [1, 1, 1, 1, 1, 1, 0, 1, 4, 5, 1, 1]) acZ LQ qE
noncomputable def anP : KK := bX Pi Q2
noncomputable def mq : OV := Q2 (ls [u, x1, x2, x3, u, u, u, u, x8, x9, u, x11, x12] 148) H
noncomputable def anR : KX := BX 3 anP LQ
noncomputable def kN : OV := Q5 2 (ls [u, x1, x2, x3, u, u, u, u, x8, x9, u, x11] 149) H
noncomputable def ac7 : KK := CQ (qD [1, 1, 1, 1, 0, 1]) alG bg qE
noncomputable def mr : OV := ac7 (ls [u, x1, x2, x3, x4, u, u, u, x8, x9, x10] 150) H
noncomputable def Q6 : KX := BX 0 alG bg
noncomputable def LR : KX := iz SG (Q6)
noncomputable def Q3 : KK := qq (qD [1, 1, 1, 1, 0, 1, 4, 5]) LR qE
noncomputable def ac0 : KK := bX Pj Q3
noncomputable def eR : OV := Q3 (ls [u, x1, x2, x3, x4, u, u, u, x8, x9, x10] 150) H
noncomputable def ac9 : KK := CQ (qD [1, 1, 1, 1, 0, 1, 4, 5, 1]) ac0 LR qE
noncomputable def mt : OV := ac9 (ls [u, x1, x2, x3, x4, u, u, u, x8, x9, x10] 150) H
noncomputable def Q4 : KK := CQ (qD [1, 1, 1, 1, 0, 1, 4, 5, 1, 1]) ac0 LR qE
noncomputable def anQ : KK := bX Pj Q4
noncomputable def mu : OV := Q4 (ls [u, x1, x2, x3, x4, u, u, u, x8, x9, x10] 150) H
noncomputable def anS : KX := BX 1 anQ LR
noncomputable def kO : OV := Q6 0 (ls [u, x1, x2, x3, u, u, u, u, x8, x9] 151) H
theorem gp : af 2923003274661805836407369665432566039311865085695 qE := rf
theorem ajM : af 2923003274661805836407369665432566039311865085153 alI := rc gp am gp
theorem LO : af SG ac1 := rc gp am gp
theorem ajN : af M5 alJ := rc gp am gp
theorem LP : af M5 ac2 := rc gp am gp
theorem ac4 : af Pi ac3 := rc (cd (LP)) am gp
theorem tC : ∀ i, af M5 (Q5 i) := rb (cd (LP)) am
theorem zL : af Pi Q1 := rl (cx (tC)) gp
theorem ac6 : af Pi ac5 := rc (cd (zL)) (cx (tC)) gp
theorem NU : af Pi Q2 := rc (cd (zL)) (cx (tC)) gp
theorem adB : ∀ i, af Pi (anR i) := rb (cd (NU)) (cx (tC))
theorem ac8 : af Pj ac7 := rc (cd (LO)) am gp
theorem tD : ∀ i, af SG (Q6 i) := rb (cd (LO)) am
theorem zM : af Pj Q3 := rl (cx (tD)) gp
theorem adA : af Pj ac9 := rc (cd (zM)) (cx (tD)) gp
theorem NV : af Pj Q4 := rc (cd (zM)) (cx (tD)) gp
theorem adC : ∀ i, af Pj (anS i) := rb (cd (NV)) (cx (tD))
theorem tW : fq x1 x2 x3 x8 x9 x11 H =
 (aQ 6 x9 H).bind fun D =>
 (FF cJ [D, x11] H).bind fun k =>
 (ar k.1 0).bind fun q =>
 (ar k.1 1).bind fun e =>
 (FF bB [] k.2).bind fun f =>
 (xi .not f.1).bind fun a =>
 (gV a false e).bind fun E =>
 (gB a false (ag .other .eql E (vi 0))).bind fun G =>
 (gV a false x1).bind fun I =>
 (gB a false (ag .other .leq I (vi 4000))).bind fun J =>
 (gV a false J).bind fun l =>
 (gV l true x3).bind fun K =>
 (gB l true (ag .other .leq K (vi 60))).bind fun L =>
 (gB a false (aE l L (vb false))).bind fun M =>
 (gB a false (ag .bool .neq G M)).bind fun N =>
 (aE a (vb true) N).bind fun c =>
 (gV c false e).bind fun O =>
 (gB c false (ag .other .neq O (vi 0))).bind fun P =>
 (gV c false P).bind fun m =>
 (gV m true e).bind fun Q =>
 (gB m true (ag .other .neq Q (vi 1))).bind fun R =>
 (gB c false (aE m R (vb false))).bind fun S =>
 (aE c (vb true) S).bind fun T =>
 aw T
 (some ((vb false), f.2))
 ((ag .other .neq e (vi 0)).bind fun U =>
 aw U
 (cB q fun V =>
 (ag .other .eql V (vi 0)).bind fun W =>
 some (W, f.2))
 ((FF ba [q] f.2).bind fun g =>
 (ar g.1 0).bind fun X =>
 (ar g.1 1).bind fun Y =>
 (ar g.1 2).bind fun Z =>
 bA [(vi 0), (vi 0), (vi 0), (vi 0), (vw 0), (.slice none 0 0)] g.2 fun s a0 =>
 (fT 6 s X a0).bind fun a1 =>
 (FF aD [x2, x1] a1).bind fun t =>
 (FF aD [x2, (vi 64)] t.2).bind fun w =>
 (ag .other .add (vi 64) w.1).bind fun a2 =>
 st 1 [.i 1 t.1] x11 a2 w.2 fun y =>
 (aQ 6 x9 y).bind fun a3 =>
 (FF cJ [a3, x11] y).bind fun n =>
 (ar n.1 0).bind fun b9 =>
 (ar n.1 1).bind fun a4 =>
 (FF aD [x2, x1] n.2).bind fun z =>
 (FF aD [x2, (vi 64)] z.2).bind fun A =>
 (ag .other .sub (vi (-1)) A.1).bind fun a5 =>
 st 1 [.i 1 z.1] x11 a5 A.2 fun B =>
 (aQ 6 x9 B).bind fun a6 =>
 (FF cJ [a6, x11] B).bind fun b =>
 (ar b.1 0).bind fun c0 =>
 (ar b.1 1).bind fun a7 =>
 (ag .other .eql Z (vi 0)).bind fun j =>
 (gB j true (aQ 6 x9 b.2)).bind fun a8 =>
 (gB j true (aQ 6 s b.2)).bind fun a9 =>
 (gE j true b.2 (FF kP [a8, a9] b.2)).bind fun C =>
 (aE j C.1 (vb false)).bind fun d =>
 (gV d true Y).bind fun b0 =>
 (za (yv d) true (cB b0 some) (some undef)).bind fun b1 =>
 (gV d true x1).bind fun b2 =>
 (gB d true (ag .other .eql b1 b2)).bind fun b3 =>
 (aE d b3 (vb false)).bind fun o =>
 (gV o true a4).bind fun b4 =>
 (gB o true (ag .other .eql b4 (vi 1))).bind fun b5 =>
 (aE o b5 (vb false)).bind fun p =>
 (gV p true a7).bind fun b6 =>
 (gB p true (ag .other .eql b6 (vi 1))).bind fun b7 =>
 (aE p b7 (vb false)).bind fun b8 =>
 some (b8, C.2))) :=
 (by kernel_rfl)
theorem sD : mq x1 x2 x3 x8 x9 x11 x12 H =
 (ag .other .add x12 (vi 1)).bind fun a =>
 eQ x1 x2 x3 x8 x9 x11 a H :=
 (by kernel_rfl)
theorem sC : mp x1 x2 x3 x8 x9 x11 x12 H =
 (ag .other .mul x12 (vi 7)).bind fun b =>
 (ag .other .rem x2 (vi 64)).bind fun c =>
 (ag .other .add b c).bind fun d =>
 (FF aD [d, (vi 64)] H).bind fun a =>
 st 1 [.i 1 x12] x11 a.1 a.2 fun e =>
 mq x1 x2 x3 x8 x9 x11 x12 e :=
 (pt rfl 0 (NU) (bt rfl (qD [1, 1, 1, 1, 1, 1, 0, 1, 4, 5, 1, 0, 4]) 3 (adB) (by kernel_rfl)))
theorem pI : kN x1 x2 x3 x8 x9 x11 H = fq x1 x2 x3 x8 x9 x11 H :=
 (by kernel_rfl)
theorem jH : eQ x1 x2 x3 x8 x9 x11 x12 H =
 (ag .other .lss x12 x1).bind fun a =>
 aw a
 (mp x1 x2 x3 x8 x9 x11 x12 H)
 (kN x1 x2 x3 x8 x9 x11 H) :=
 qr rfl (zL) (pt rfl 0 (ac6) (by kernel_rfl))
theorem sB : mo x1 x2 x3 x8 x9 x11 x12 H =
 eQ x1 x2 x3 x8 x9 x11 x12 H :=
 (bt rfl (qD [1, 1, 1, 1, 1, 1, 0, 1, 4]) 2 (tC) (li rfl (qD [1, 1, 1, 1, 1, 1, 0, 1, 4, 5]) (zL) (by kernel_rfl)))
theorem tV : nL x1 x2 x3 x8 x9 x11 H =
 mo x1 x2 x3 x8 x9 x11 (vi 0) H :=
 (pt rfl 0 (LP) (pt rfl 0 (ac4) (by kernel_rfl)))
theorem tU : iZ x1 x2 x3 x8 x9 H =
 (mD [(vi 0)] 1 8 x1 x1 H).bind fun a =>
 nL x1 x2 x3 x8 x9 a.1 a.2 :=
 (pt rfl 0 (ajN) (by kernel_rfl))
theorem sG : mu x1 x2 x3 x4 x8 x9 x10 H =
 (ag .other .add x10 (vi 1)).bind fun a =>
 eR x1 x2 x3 x4 x8 x9 a H :=
 (by kernel_rfl)
theorem sF : mt x1 x2 x3 x4 x8 x9 x10 H =
 ad [.f 5] x9 fun b =>
 (aA b H).bind fun d =>
 ad [.f 2] x4 fun c =>
 (aA c H).bind fun e =>
 (ag .other .rem x10 e).bind fun g =>
 ld [.f 5] x9 H fun j =>
 ld [.f 2] x4 H fun k =>
 (ag .other .rem x10 k).bind fun l =>
 ld [.i 1 l] j H fun m =>
 wn [(0, 1), (1, 1), (2, 1), (3, 1)] [(vi 0), (vi 0), (vi 0), (vi 0)] [(0, (vi 4))] fun n =>
 la 1 4 [(vi 0), (vi 0), (vi 0), (vi 0)] [(0, n)] H fun o p =>
 (cz 4 32 m o p).bind fun a =>
 ic (aA b a.2) (aA b H) <|
 ic (aA c a.2) (aA c H) <|
 st 1 [.i 1 g] d a.1 a.2 fun q =>
 mu x1 x2 x3 x4 x8 x9 x10 q :=
 (pt rfl 0 (NV) (bt rfl (qD [1, 1, 1, 1, 0, 1, 4, 5, 1, 0, 4]) 1 (adC) (by kernel_rfl)))
theorem pJ : kO x1 x2 x3 x8 x9 H = iZ x1 x2 x3 x8 x9 H :=
 (by kernel_rfl)
theorem jI : eR x1 x2 x3 x4 x8 x9 x10 H =
 (ag .other .lss x10 x3).bind fun a =>
 aw a
 (mt x1 x2 x3 x4 x8 x9 x10 H)
 (kO x1 x2 x3 x8 x9 H) :=
 qr rfl (zM) (pt rfl 0 (adA) (by kernel_rfl))
theorem sE : mr x1 x2 x3 x4 x8 x9 x10 H =
 eR x1 x2 x3 x4 x8 x9 x10 H :=
 (bt rfl (qD [1, 1, 1, 1, 0, 1, 4]) 0 (tD) (li rfl (qD [1, 1, 1, 1, 0, 1, 4, 5]) (zM) (by kernel_rfl)))
theorem tT : nK x1 x2 x3 x4 x8 x9 H =
 mr x1 x2 x3 x4 x8 x9 (vi 0) H :=
 (pt rfl 0 (LO) (pt rfl 0 (ac8) (by kernel_rfl)))
noncomputable def Hj : OV := aM PP GG FF (qD []) (ls [x0, x1, x2, x3] 157) H qE bg qE
theorem zY {r : Value × AH} (h : (
 bA (Value.cells x0).toList H fun a c =>
 (aQ 5 a c).bind fun k =>
 (FF gC [k] c).bind fun d =>
 (fT 5 a d.1 d.2).bind fun l =>
 (FF aD [x1, (vi 20)] l).bind fun e =>
 (ag .other .add (vi 3990) e.1).bind fun m =>
 (FF aD [x3, (vi 20)] e.2).bind fun b =>
 (ag .other .add (vi 50) b.1).bind fun n =>
 (aQ 5 a b.2).bind fun o =>
 ld [.f 2] a b.2 fun g =>
 (mD [(.slice none 0 0)] 1 24 g g b.2).bind fun i =>
 wn [(0, 5), (5, 1)] [(vi 0), (vi 0), (vi 0), (vi 0), (vw 0), (.slice none 0 0)] [(0, o), (1, i.1)] fun p =>
 bA [(vi 0), (vi 0), (vi 0), (vi 0), (vw 0), (.slice none 0 0)] i.2 fun j q =>
 (fT 6 j p q).bind fun s =>
 nK m x2 n a (vb false) j s) = some r) : FF fZ [x0, x1, x2, x3] H = some r :=
 fo (t := Hj x0 x1 x2 x3 H) Tryz.func5 (by kernel_rfl) (Eq.trans (pt rfl 3 (ajM) (by kernel_rfl)) h)
noncomputable def m8 (p : List Nat) : Code := Code.sub (bh Tryz.f6) p
noncomputable def m9 : KK := ed PP (Tryz.f6).results.toList
noncomputable def alN : KK := CQ (m8 [1, 1]) m9 bg m9
noncomputable def ly : OV := alN (ls [x0, u, x2, x3, u, x5, u, u, x8, x9] 95) H
noncomputable def adJ : KK := CQ (m8 [1, 1, 1]) m9 bg m9
noncomputable def alK : KK := bX M9 adJ
noncomputable def gt : OV := adJ (ls [x0, u, x2, x3, u, x5, u, u, x8, x9] 95) H
noncomputable def alO : KK := CQ (m8 [1, 1, 1, 1, 1]) m9 bg m9
noncomputable def lz : OV := alO (ls [u, u, u, x3, u, u, u, u, x8, u, u, u, x12] 92) H
noncomputable def adK : KK := CQ (m8 [1, 1, 1, 1, 1, 1]) m9 bg m9
noncomputable def alL : KK := bX Na adK
noncomputable def lA : OV := adK (ls [u, u, u, u, u, u, u, u, x8] 96) H
noncomputable def alP : KK := CQ (m8 [1, 1, 1, 1, 1, 0, 1]) alL bg m9
noncomputable def lB : OV := alP (ls [u, u, u, x3, u, u, u, u, x8, u, u, u, x12, u, x14] 90) H
noncomputable def adY : KX := BX 2 alL bg
noncomputable def UB : KX := iz Na (adY)
noncomputable def adV : KK := qq (m8 [1, 1, 1, 1, 1, 0, 1, 4, 5]) UB m9
noncomputable def alM : KK := bX FM adV
noncomputable def ej : OV := adV (ls [u, u, u, x3, u, u, u, u, x8, u, u, u, x12, u, x14] 90) H
noncomputable def alQ : KK := CQ (m8 [1, 1, 1, 1, 1, 0, 1, 4, 5, 1]) alM UB m9
noncomputable def lC : OV := alQ (ls [u, u, u, x3, u, u, u, u, x8, u, u, u, x12, u, x14] 90) H
noncomputable def adW : KK := CQ (m8 [1, 1, 1, 1, 1, 0, 1, 4, 5, 1, 1]) alM UB m9
noncomputable def ao5 : KK := bX FM adW
noncomputable def lD : OV := adW (ls [u, u, u, x3, u, u, u, u, x8, u, u, u, x12, u, x14] 90) H
noncomputable def anT : KX := BX 3 ao5 UB
noncomputable def jF : OV := adY 2 (ls [u, u, u, u, u, u, u, u, x8] 96) H
noncomputable def adL : KK := CQ (m8 [1, 1, 0, 1]) alK bg m9
noncomputable def kJ : OV := adL (ls [x0, u, x2, x3, u, x5, u, u, x8, x9, x10] 94) H
noncomputable def Q9 : KX := BX 0 alK bg
noncomputable def LV : KX := iz M9 (Q9)
noncomputable def Q7 : KK := qq (m8 [1, 1, 0, 1, 4, 5]) LV m9
noncomputable def adI : KK := bX Dm Q7
noncomputable def dR : OV := Q7 (ls [x0, u, x2, x3, u, x5, u, u, x8, x9, x10] 94) H
noncomputable def adN : KK := CQ (m8 [1, 1, 0, 1, 4, 5, 1]) adI LV m9
noncomputable def kK : OV := adN (ls [x0, u, x2, x3, u, x5, u, u, x8, x9, x10] 94) H
noncomputable def Q8 : KK := CQ (m8 [1, 1, 0, 1, 4, 5, 1, 1]) adI LV m9
noncomputable def LS : KK := bX Dm Q8
noncomputable def kL : OV := Q8 (ls [x0, u, x2, x3, u, x5, u, u, x8, x9, x10] 94) H
noncomputable def adZ : KX := BX 1 LS LV
noncomputable def Ra : KX := iz Dm (adZ)
noncomputable def adP : KK := CQ (m8 [1, 1, 0, 1, 4, 5, 1, 0, 4, 1]) LS Ra m9
noncomputable def kM : OV := adP (ls [x0, u, x2, x3, u, x5, u, u, x8, x9, x10, x11] 93) H
noncomputable def adR : KK := CQ (m8 [1, 1, 0, 1, 4, 5, 1, 0, 4, 1, 1]) LS Ra m9
noncomputable def dS : OV := adR (ls [x0, u, x2, x3, u, x5, u, u, x8, x9, x10, x11] 93) H
noncomputable def adT : KK := CQ (m8 [1, 1, 0, 1, 4, 5, 1, 0, 4, 1, 1, 1]) LS Ra m9
noncomputable def dT : OV := adT (ls [x0, u, x2, x3, u, x5, u, u, x8, x9, x10, x11] 93) H
noncomputable def iW : OV := Q9 0 (ls [x0, u, x2, x3, u, x5, u, u, x8, x9] 95) H
theorem eO : af Na m9 := rf
theorem ajO : af M9 alN := rc eO am eO
theorem LT : af M9 adJ := rc eO am eO
theorem ajP : af 40564819207303340847894502567671 alO := rc eO am eO
theorem LU : af Na adK := rc eO am eO
theorem ajQ : af FM alP := rc (cd (LU)) am eO
theorem zP : ∀ i, af Na (adY i) := rb (cd (LU)) am
theorem Fk : af FM adV := rl (cx (zP)) eO
theorem ajR : af FM alQ := rc (cd (Fk)) (cx (zP)) eO
theorem UA : af FM adW := rc (cd (Fk)) (cx (zP)) eO
theorem adX : ∀ i, af FM (anT i) := rb (cd (UA)) (cx (zP))
theorem adM : af Dm adL := rc (cd (LT)) am eO
theorem tF : ∀ i, af M9 (Q9 i) := rb (cd (LT)) am
theorem zN : af Dm Q7 := rl (cx (tF)) eO
theorem adO : af Dm adN := rc (cd (zN)) (cx (tF)) eO
theorem tE : af Dm Q8 := rc (cd (zN)) (cx (tF)) eO
theorem zO : ∀ i, af Dm (adZ i) := rb (cd (tE)) (cx (tF))
theorem adQ : af Yf adP := rc (cd (tE)) (cx (zO)) eO
theorem adS : af Yf adR := rc (cd (tE)) (cx (zO)) eO
theorem adU : af Yf adT := rc (cd (tE)) (cx (zO)) eO
theorem eP : lA x8 H =
 some ((vb true), H) :=
 (by kernel_rfl)
theorem qU : lD x3 x8 x12 x14 H =
 (ag .other .add x14 (vi 1)).bind fun a =>
 ej x3 x8 x12 a H :=
 (by kernel_rfl)
theorem qT : lC x3 x8 x12 x14 H =
 ld [.i 1 x14] x3 H fun e =>
 cB x12 fun f =>
 (FF aD [e, f] H).bind fun c =>
 (cz 1 1 (.slice none 0 0) x12 c.2).bind fun a =>
 ld [.i 1 x14] x3 a.2 fun g =>
 (ag .other .quo g (vi 7)).bind fun j =>
 (FF aD [j, (vi 256)] a.2).bind fun d =>
 (aO (some .u8) d.1).bind fun k =>
 st 1 [.i 1 c.1] a.1 k d.2 fun l =>
 (FF mA [a.1] l).bind fun b =>
 (xi .not b.1).bind fun m =>
 aw m
 (some ((vb false), b.2))
 (lD x3 x8 x12 x14 b.2) :=
 (pt rfl 0 (UA) (bt rfl (m8 [1, 1, 1, 1, 1, 0, 1, 4, 5, 1, 0, 4]) 3 (adX) (by kernel_rfl)))
theorem d6 : jF x8 H = lA x8 H :=
 (by kernel_rfl)
theorem iX : ej x3 x8 x12 x14 H =
 cB x3 fun c =>
 (ag .other .lss x14 c).bind fun b =>
 (gV b true x14).bind fun d =>
 (gB b true (ag .other .lss d (vi 12))).bind fun e =>
 (aE b e (vb false)).bind fun a =>
 (gV a true x12).bind fun f =>
 (za (yv a) true (cB f some) (some undef)).bind fun g =>
 (gB a true (ag .other .gtr g (vi 0))).bind fun i =>
 (aE a i (vb false)).bind fun j =>
 aw j
 (lC x3 x8 x12 x14 H)
 (jF x8 H) :=
 qr rfl (Fk) (pt rfl 0 (ajR) (by kernel_rfl))
theorem qS : lB x3 x8 x12 x14 H =
 ej x3 x8 x12 x14 H :=
 (bt rfl (m8 [1, 1, 1, 1, 1, 0, 1, 4]) 2 (zP) (li rfl (m8 [1, 1, 1, 1, 1, 0, 1, 4, 5]) (Fk) (by kernel_rfl)))
theorem qR : lz x3 x8 x12 H =
 lB x3 x8 x12 (vi 0) H :=
 (pt rfl 0 (LU) (pt rfl 0 (ajQ) (by kernel_rfl)))
theorem qQ : gt x0 x2 x3 x5 x8 x9 H =
 (FF bB [] H).bind fun d =>
 (xi .not d.1).bind fun a =>
 (gV a false x0).bind fun j =>
 (gE a false d.2 (FF mA [j] d.2)).bind fun e =>
 (gB a false (xi .not e.1)).bind fun k =>
 (aE a (vb true) k).bind fun b =>
 (gV b false x9).bind fun l =>
 (gE b false e.2 (FF mA [l] e.2)).bind fun c =>
 (gB b false (xi .not c.1)).bind fun m =>
 (aE b (vb true) m).bind fun n =>
 aw n
 (some ((vb false), c.2))
 ((aQ 6 x5 c.2).bind fun o =>
 (FF kR [o, (vi 1)] c.2).bind fun g =>
 (FF kS [x2, (vi 1)] g.2).bind fun i =>
 (FF rg [g.1, i.1] i.2).bind fun f =>
 (ar f.1 0).bind fun p =>
 (ar f.1 1).bind fun q =>
 lz x3 x8 p f.2) :=
 (pt rfl 1 (ajP) (by kernel_rfl))
theorem pE : kL x0 x2 x3 x5 x8 x9 x10 H =
 (ag .other .add x10 (vi 1)).bind fun a =>
 dR x0 x2 x3 x5 x8 x9 a H :=
 (by kernel_rfl)
theorem pH : dT x0 x2 x3 x5 x8 x9 x10 x11 H =
 la 1 1 [(.int .u8 0)] [(0, x11)] H fun b c =>
 (cz 1 1 x9 b c).bind fun a =>
 kL x0 x2 x3 x5 x8 a.1 x10 a.2 :=
 (by kernel_rfl)
theorem pG : dS x0 x2 x3 x5 x8 x9 x10 x11 H =
 (ag .other .lss x10 (vi 7)).bind fun a =>
 aw a
 ((ag .other .rem x11 (.int .u8 5)).bind fun b =>
 dT x0 x2 x3 x5 x8 x9 x10 b H)
 (dT x0 x2 x3 x5 x8 x9 x10 x11 H) :=
 (pt rfl 0 (adU) (by kernel_rfl))
theorem pF : kM x0 x2 x3 x5 x8 x9 x10 x11 H =
 (ag .other .geq x11 (.int .u8 128)).bind fun a =>
 (gV a true x10).bind fun b =>
 (gB a true (ag .other .rem b (vi 4))).bind fun c =>
 (gB a true (ag .other .gtr c (vi 0))).bind fun d =>
 (aE a d (vb false)).bind fun e =>
 aw e
 ((ag .other .rem x11 (.int .u8 8)).bind fun f =>
 dS x0 x2 x3 x5 x8 x9 x10 f H)
 (dS x0 x2 x3 x5 x8 x9 x10 x11 H) :=
 (pt rfl 0 (adS) (by kernel_rfl))
theorem pD : kK x0 x2 x3 x5 x8 x9 x10 H =
 ld [.i 1 x10] x0 H fun a =>
 kM x0 x2 x3 x5 x8 x9 x10 a H :=
 (pt rfl 0 (tE) (bt rfl (m8 [1, 1, 0, 1, 4, 5, 1, 0, 4]) 1 (zO) (pt rfl 0 (adQ) (by kernel_rfl))))
theorem dM : iW x0 x2 x3 x5 x8 x9 H = gt x0 x2 x3 x5 x8 x9 H :=
 (by kernel_rfl)
theorem ii : dR x0 x2 x3 x5 x8 x9 x10 H =
 cB x0 fun b =>
 (ag .other .lss x10 b).bind fun a =>
 (gV a true x10).bind fun c =>
 (gB a true (ag .other .lss c (vi 60))).bind fun d =>
 (aE a d (vb false)).bind fun e =>
 aw e
 (kK x0 x2 x3 x5 x8 x9 x10 H)
 (iW x0 x2 x3 x5 x8 x9 H) :=
 qr rfl (zN) (pt rfl 0 (adO) (by kernel_rfl))
theorem pC : kJ x0 x2 x3 x5 x8 x9 x10 H =
 dR x0 x2 x3 x5 x8 x9 x10 H :=
 (bt rfl (m8 [1, 1, 0, 1, 4]) 0 (tF) (li rfl (m8 [1, 1, 0, 1, 4, 5]) (zN) (by kernel_rfl)))
theorem qP : ly x0 x2 x3 x5 x8 x9 H =
 kJ x0 x2 x3 x5 x8 x9 (vi 0) H :=
 (pt rfl 0 (LT) (pt rfl 0 (adM) (by kernel_rfl)))
noncomputable def Cn : OV := aM PP GG FF (m8 []) (ls [x0, x1, x2, x3] 101) H m9 bg m9
theorem wy {r : Value × AH} (h : (
 bA (Value.cells x1).toList H fun a b =>
 ly x0 x2 x3 a (vb false) (.slice none 0 0) b) = some r) : FF eS [x0, x1, x2, x3] H = some r :=
 fo (t := Cn x0 x1 x2 x3 H) Tryz.func6 (by kernel_rfl) (Eq.trans (pt rfl 1 (ajO) (by kernel_rfl)) h)
theorem Cm {r : Value × AH} (h : (
 bA (Value.cells x0).toList H fun C o =>
 (aQ 6 C o).bind fun D =>
 (FF kR [D, (vi 1)] o).bind fun p =>
 (FF kS [x1, (vi 1)] p.2).bind fun q =>
 (FF cJ [p.1, q.1] q.2).bind fun i =>
 (ar i.1 0).bind fun a =>
 (ar i.1 1).bind fun E =>
 (FF bB [] i.2).bind fun j =>
 (xi .not j.1).bind fun k =>
 (gV k false E).bind fun G =>
 (gB k false (ag .other .neq G (vi 0))).bind fun I =>
 (aE k (vb true) I).bind fun c =>
 (gV c false a).bind fun J =>
 (za (yv c) false (cB J some) (some undef)).bind fun K =>
 (gB c false (ag .other .eql K (vi 0))).bind fun L =>
 (aE c (vb true) L).bind fun M =>
 aw M
 (some ((vb false), j.2))
 (cB a fun N =>
 (FF aD [x2, N] j.2).bind fun s =>
 (eV 1 a none (some s.1)).bind fun O =>
 (FF ba [O] s.2).bind fun d =>
 (ar d.1 0).bind fun P =>
 (ar d.1 1).bind fun Q =>
 (ar d.1 2).bind fun R =>
 bA [(vi 0), (vi 0), (vi 0), (vi 0), (vw 0), (.slice none 0 0)] d.2 fun t S =>
 (fT 6 t P S).bind fun l =>
 (ag .other .neq R (vi 12)).bind fun b =>
 (gB b false (aQ 6 t l)).bind fun T =>
 (za (yv b) false (wn [(0, 5), (5, 1)] [(vi 0), (vi 0), (vi 0), (vi 0), (vw 0), (.slice none 0 0)] [] some) (some undef)).bind fun U =>
 (gE b false l (FF kP [T, U] l)).bind fun m =>
 (gB b false (xi .not m.1)).bind fun V =>
 (aE b (vb true) V).bind fun e =>
 (gV e false Q).bind fun W =>
 (za (yv e) false (cB W some) (some undef)).bind fun X =>
 (gB e false (ag .other .neq X (vi 0))).bind fun Y =>
 (aE e (vb true) Y).bind fun Z =>
 aw Z
 (some ((vb false), m.2))
 ((cz 1 1 (.slice none 0 0) a m.2).bind fun w =>
 (aO (some .u8) x2).bind fun a0 =>
 la 1 1 [(.int .u8 0)] [(0, a0)] w.2 fun a1 a2 =>
 (cz 1 1 w.1 a1 a2).bind fun y =>
 (FF ba [y.1] y.2).bind fun f =>
 (ar f.1 0).bind fun a3 =>
 (ar f.1 1).bind fun b8 =>
 (ar f.1 2).bind fun a4 =>
 bA [(vi 0), (vi 0), (vi 0), (vi 0), (vw 0), (.slice none 0 0)] f.2 fun a5 a6 =>
 (fT 6 a5 a3 a6).bind fun a7 =>
 (cz 1 1 (.slice none 0 0) a a7).bind fun z =>
 la 1 1 [(.int .u8 0)] [(0, (.int .u8 0))] z.2 fun a8 a9 =>
 (cz 1 1 z.1 a8 a9).bind fun A =>
 (cz 1 1 A.1 x3 A.2).bind fun B =>
 (FF ba [B.1] B.2).bind fun g =>
 (ar g.1 0).bind fun b0 =>
 (ar g.1 1).bind fun b9 =>
 (ar g.1 2).bind fun b1 =>
 bA [(vi 0), (vi 0), (vi 0), (vi 0), (vw 0), (.slice none 0 0)] g.2 fun b2 b3 =>
 (fT 6 b2 b0 b3).bind fun b4 =>
 (ag .other .eql a4 (vi 11)).bind fun n =>
 (gV n true b1).bind fun b5 =>
 (gB n true (ag .other .eql b5 (vi 11))).bind fun b6 =>
 (aE n b6 (vb false)).bind fun b7 =>
 some (b7, b4)))) = some r) : FF gR [x0, x1, x2, x3] H = some r :=
 fo Tryz.func7 (by kernel_rfl) h
noncomputable def Iu (p : List Nat) : Code := Code.sub (bh Tryz.f8) p
noncomputable def G0 : KK := ed PP (Tryz.f8).results.toList
noncomputable def alS : KK := CQ (Iu [1, 1, 1, 1, 1, 1, 1]) G0 bg G0
noncomputable def mn : OV := alS (ls [u, u, x2, x3, x4, u, u, u, u, u, x10, x11, u, x13, x14] 113) H
noncomputable def aeG : KK := CQ (Iu [1, 1, 1, 1, 1, 1, 1, 1]) G0 bg G0
noncomputable def alR : KK := bX SL aeG
noncomputable def gY : OV := aeG (ls [u, u, x2, u, x4, u, u, u, u, u, x10, x11, u, x13, x14] 113) H
noncomputable def aeH : KK := CQ (Iu [1, 1, 1, 1, 1, 1, 1, 0, 1]) alR bg G0
noncomputable def lE : OV := aeH (ls [u, u, x2, x3, x4, u, u, u, u, u, x10, x11, u, x13, x14, x15] 112) H
noncomputable def Rg : KX := BX 0 alR bg
noncomputable def L1 : KX := iz SL (Rg)
noncomputable def Re : KK := qq (Iu [1, 1, 1, 1, 1, 1, 1, 0, 1, 4, 5]) L1 G0
noncomputable def aeF : KK := bX FJ Re
noncomputable def em : OV := Re (ls [u, u, x2, x3, x4, u, u, u, u, u, x10, x11, u, x13, x14, x15] 112) H
noncomputable def aeJ : KK := CQ (Iu [1, 1, 1, 1, 1, 1, 1, 0, 1, 4, 5, 1]) aeF L1 G0
noncomputable def lF : OV := aeJ (ls [u, u, x2, x3, x4, u, u, u, u, u, x10, x11, u, x13, x14, x15] 112) H
noncomputable def Rf : KK := CQ (Iu [1, 1, 1, 1, 1, 1, 1, 0, 1, 4, 5, 1, 1]) aeF L1 G0
noncomputable def anU : KK := bX FJ Rf
noncomputable def lG : OV := Rf (ls [u, u, x2, x3, x4, u, u, u, u, u, x10, x11, u, x13, x14, x15] 112) H
noncomputable def anV : KX := BX 1 anU L1
noncomputable def jG : OV := Rg 0 (ls [u, u, x2, u, x4, u, u, u, u, u, x10, x11, u, x13, x14] 113) H
theorem tH : af 340282366920938463463374607431768210431 G0 := rf
theorem ajU : af 340282366920938463463374607431768183779 alS := rc tH am tH
theorem LZ : af SL aeG := rc tH am tH
theorem aeI : af FJ aeH := rc (cd (LZ)) am tH
theorem tI : ∀ i, af SL (Rg i) := rb (cd (LZ)) am
theorem zR : af FJ Re := rl (cx (tI)) tH
theorem aeK : af FJ aeJ := rc (cd (zR)) (cx (tI)) tH
theorem NW : af FJ Rf := rc (cd (zR)) (cx (tI)) tH
theorem aeL : ∀ i, af FJ (anV i) := rb (cd (NW)) (cx (tI))
theorem sA : gY x2 x4 x10 x11 x13 x14 H =
 la 1 1 [(.int .u8 0)] [(0, (.int .u8 0))] H fun n o =>
 (cz 1 1 x14 n o).bind fun j =>
 (ag .other .add x13 (vi 1)).bind fun p =>
 (eV 1 x11 (some p) none).bind fun q =>
 (cz 1 1 j.1 q j.2).bind fun k =>
 (FF ba [k.1] k.2).bind fun a =>
 (ar a.1 0).bind fun s =>
 (ar a.1 1).bind fun a0 =>
 (ar a.1 2).bind fun t =>
 bA [(vi 0), (vi 0), (vi 0), (vi 0), (vw 0), (.slice none 0 0)] a.2 fun w y =>
 (fT 6 w s y).bind fun z =>
 (cz 1 1 (.slice none 0 0) x11 z).bind fun d =>
 la 4 1 [(vi 0)] [(0, (vi 4)), (1, (vi 4)), (2, (vi 6)), (3, (vi 40))] d.2 fun A l =>
 ld [.i 1 x13] A l fun B =>
 (ag .other .add B (vi 1)).bind fun C =>
 (ag .other .rem x4 (vw 60)).bind fun D =>
 (aO (some .i64) D).bind fun E =>
 (ag .other .add C E).bind fun G =>
 (aO (some .u8) G).bind fun I =>
 st 1 [.i 1 x13] d.1 I l fun J =>
 (FF ba [d.1] J).bind fun b =>
 (ar b.1 0).bind fun K =>
 (ar b.1 1).bind fun a1 =>
 (ar b.1 2).bind fun L =>
 bA [(vi 0), (vi 0), (vi 0), (vi 0), (vw 0), (.slice none 0 0)] b.2 fun M N =>
 (fT 6 M K N).bind fun O =>
 (cz 1 1 (.slice none 0 0) x11 O).bind fun e =>
 (FF aD [x2, (vi 3)] e.2).bind fun m =>
 st 1 [.i 1 m.1] e.1 (.int .u8 0) m.2 fun P =>
 (FF ba [e.1] P).bind fun c =>
 (ar c.1 0).bind fun Q =>
 (ar c.1 1).bind fun a2 =>
 (ar c.1 2).bind fun R =>
 bA [(vi 0), (vi 0), (vi 0), (vi 0), (vw 0), (.slice none 0 0)] c.2 fun S T =>
 (fT 6 S Q T).bind fun U =>
 (ag .other .eql t (vi 11)).bind fun f =>
 (gV f true L).bind fun V =>
 (gB f true (ag .other .eql V (vi 11))).bind fun W =>
 (aE f W (vb false)).bind fun g =>
 (gV g true R).bind fun X =>
 (gB g true (ag .other .eql X (vi 11))).bind fun Y =>
 (aE g Y (vb false)).bind fun Z =>
 some (Z, U) :=
 (by kernel_rfl)
theorem qX : lG x2 x3 x4 x10 x11 x13 x14 x15 H =
 (ag .other .add x15 (vi 1)).bind fun a =>
 em x2 x3 x4 x10 x11 x13 x14 a H :=
 (by kernel_rfl)
theorem qW : lF x2 x3 x4 x10 x11 x13 x14 x15 H =
 la 1 1 [(.int .u8 0)] [(0, (.int .u8 128))] H fun b c =>
 (cz 1 1 x14 b c).bind fun a =>
 lG x2 x3 x4 x10 x11 x13 a.1 x15 a.2 :=
 (pt rfl 0 (NW) (bt rfl (Iu [1, 1, 1, 1, 1, 1, 1, 0, 1, 4, 5, 1, 0, 4]) 1 (aeL) (by kernel_rfl)))
theorem oC : jG x2 x4 x10 x11 x13 x14 H = gY x2 x4 x10 x11 x13 x14 H :=
 (by kernel_rfl)
theorem iY : em x2 x3 x4 x10 x11 x13 x14 x15 H =
 (FF aD [x3, (vi 12)] H).bind fun a =>
 (ag .other .lss x15 a.1).bind fun b =>
 aw b
 (lF x2 x3 x4 x10 x11 x13 x14 x15 a.2)
 (jG x2 x4 x10 x11 x13 x14 a.2) :=
 qr rfl (zR) (pt rfl 0 (aeK) (by kernel_rfl))
theorem qV : lE x2 x3 x4 x10 x11 x13 x14 x15 H =
 em x2 x3 x4 x10 x11 x13 x14 x15 H :=
 (bt rfl (Iu [1, 1, 1, 1, 1, 1, 1, 0, 1, 4]) 0 (tI) (li rfl (Iu [1, 1, 1, 1, 1, 1, 1, 0, 1, 4, 5]) (zR) (by kernel_rfl)))
theorem sy : mn x2 x3 x4 x10 x11 x13 x14 H =
 lE x2 x3 x4 x10 x11 x13 x14 (vi 0) H :=
 (pt rfl 0 (LZ) (pt rfl 0 (aeI) (by kernel_rfl)))
noncomputable def D3 : OV := aM PP GG FF (Iu []) (ls [x0, x1, x2, x3, x4] 123) H G0 bg G0
theorem yz {r : Value × AH} (h : (
 bA (Value.cells x0).toList H fun d k =>
 (aQ 6 d k).bind fun p =>
 (FF kR [p, (vi 1)] k).bind fun l =>
 (FF kS [x1, (vi 1)] l.2).bind fun m =>
 (fT 6 d l.1 m.2).bind fun n =>
 (aQ 6 d n).bind fun q =>
 (FF cJ [q, m.1] n).bind fun e =>
 (ar e.1 0).bind fun a =>
 (ar e.1 1).bind fun s =>
 (FF bB [] e.2).bind fun f =>
 (xi .not f.1).bind fun g =>
 (gV g false s).bind fun w =>
 (gB g false (ag .other .neq w (vi 0))).bind fun y =>
 (aE g (vb true) y).bind fun b =>
 (gV b false a).bind fun z =>
 (za (yv b) false (cB z some) (some undef)).bind fun A =>
 (gB b false (ag .other .lss A (vi 8))).bind fun B =>
 (aE b (vb true) B).bind fun C =>
 aw C
 (some ((vb false), f.2))
 ((FF aD [x2, (vi 4)] f.2).bind fun c =>
 (eV 1 a none (some c.1)).bind fun D =>
 (cz 1 1 (.slice none 0 0) D c.2).bind fun j =>
 ld [.i 1 c.1] a j.2 fun E =>
 (ag .other .add E (.int .u8 128)).bind fun G =>
 la 1 1 [(.int .u8 0)] [(0, G)] j.2 fun I J =>
 (cz 1 1 j.1 I J).bind fun o =>
 mn x2 x3 x4 (vb false) a c.1 o.1 o.2)) = some r) : FF fu [x0, x1, x2, x3, x4] H = some r :=
 fo (t := D3 x0 x1 x2 x3 x4 H) Tryz.func8 (by kernel_rfl) (Eq.trans (pt rfl 6 (ajU) (by kernel_rfl)) h)
end
section
variable (x0 x1 Z x3 x4 x5 Y x7 x8 x9 x10 x11 x12 x13 x14 x15 x16 : Value) (H : AH)
noncomputable def qF (p : List Nat) : Code := Code.sub (bh Tryz.f9) p
noncomputable def qG : KK := ed PP (Tryz.f9).results.toList
noncomputable def alV : KK := CQ (qF [1, 1, 1, 1, 1]) qG bg qG
noncomputable def ml : OV := alV (ls [u, u, Z, u, u, u, Y, u, x8, x9] 117) H
noncomputable def ae4 : KK := CQ (qF [1, 1, 1, 1, 1, 1]) qG bg qG
noncomputable def alT : KK := bX M8 ae4
noncomputable def gW : OV := ae4 (ls [u, u, Z, u, u, u, Y, u, x8, x9] 117) H
noncomputable def alW : KK := CQ (qF [1, 1, 1, 1, 1, 1, 1, 1]) qG bg qG
noncomputable def mm : OV := alW (ls [u, u, Z, u, u, u, Y, u, u, u, u, x11, x12] 114) H
noncomputable def ae9 : KK := CQ (qF [1, 1, 1, 1, 1, 1, 1, 1, 1]) qG bg qG
noncomputable def alU : KK := bX SM ae9
noncomputable def gX : OV := ae9 (ls [u, u, u, u, u, u, Y, u, u, u, u, x11, x12] 114) H
noncomputable def ae5 : KK := CQ (qF [1, 1, 1, 1, 1, 1, 1, 1, 0, 1]) alU bg qG
noncomputable def lq : OV := ae5 (ls [u, u, Z, u, u, u, Y, u, u, u, u, x11, x12, x13] 113) H
noncomputable def Rv : KX := BX 2 alU bg
noncomputable def L8 : KX := iz SM (Rv)
noncomputable def Rq : KK := qq (qF [1, 1, 1, 1, 1, 1, 1, 1, 0, 1, 4, 5]) L8 qG
noncomputable def ae2 : KK := bX FK Rq
noncomputable def eh : OV := Rq (ls [u, u, Z, u, u, u, Y, u, u, u, u, x11, x12, x13] 113) H
noncomputable def ae7 : KK := CQ (qF [1, 1, 1, 1, 1, 1, 1, 1, 0, 1, 4, 5, 1]) ae2 L8 qG
noncomputable def lr : OV := ae7 (ls [u, u, Z, u, u, u, Y, u, u, u, u, x11, x12, x13] 113) H
noncomputable def Rs : KK := CQ (qF [1, 1, 1, 1, 1, 1, 1, 1, 0, 1, 4, 5, 1, 1]) ae2 L8 qG
noncomputable def an0 : KK := bX FK Rs
noncomputable def gr : OV := Rs (ls [u, u, Z, u, u, u, Y, u, u, u, u, x11, x12, x13] 113) H
noncomputable def afE : KX := BX 3 an0 L8
noncomputable def jD : OV := afE 3 (ls [u, u, Z, u, u, u, Y, u, u, u, u, x11, x12, x13] 113) H
noncomputable def jC : OV := Rv 2 (ls [u, u, u, u, u, u, Y, u, u, u, u, x11, x12] 114) H
noncomputable def afA : KK := CQ (qF [1, 1, 1, 1, 1, 0, 1]) alT bg qG
noncomputable def lu : OV := afA (ls [u, u, Z, u, u, u, Y, u, x8, x9, x10] 116) H
noncomputable def Rw : KX := BX 0 alT bg
noncomputable def L9 : KX := iz M8 (Rw)
noncomputable def Rt : KK := qq (qF [1, 1, 1, 1, 1, 0, 1, 4, 5]) L9 qG
noncomputable def ae3 : KK := bX FL Rt
noncomputable def ei : OV := Rt (ls [u, u, Z, u, u, u, Y, u, x8, x9, x10] 116) H
noncomputable def afC : KK := CQ (qF [1, 1, 1, 1, 1, 0, 1, 4, 5, 1]) ae3 L9 qG
noncomputable def lw : OV := afC (ls [u, u, Z, u, u, u, Y, u, x8, x9, x10] 116) H
noncomputable def Ru : KK := CQ (qF [1, 1, 1, 1, 1, 0, 1, 4, 5, 1, 1]) ae3 L9 qG
noncomputable def an1 : KK := bX FL Ru
noncomputable def lx : OV := Ru (ls [u, u, Z, u, u, u, Y, u, x8, x9, x10] 116) H
noncomputable def an2 : KX := BX 1 an1 L9
noncomputable def jE : OV := Rw 0 (ls [u, u, Z, u, u, u, Y, u, x8, x9] 117) H
theorem gq : af 170141183460469231731687303715884105663 qG := rf
theorem ajW : af M8 alV := rc gq am gq
theorem L6 : af M8 ae4 := rc gq am gq
theorem ajX : af 170141183460469231731687303715884099515 alW := rc gq am gq
theorem L7 : af SM ae9 := rc gq am gq
theorem ae6 : af FK ae5 := rc (cd (L7)) am gq
theorem tP : ∀ i, af SM (Rv i) := rb (cd (L7)) am
theorem zU : af FK Rq := rl (cx (tP)) gq
theorem ae8 : af FK ae7 := rc (cd (zU)) (cx (tP)) gq
theorem NZ : af FK Rs := rc (cd (zU)) (cx (tP)) gq
theorem afF : ∀ i, af FK (afE i) := rb (cd (NZ)) (cx (tP))
theorem afB : af FL afA := rc (cd (L6)) am gq
theorem tQ : ∀ i, af M8 (Rw i) := rb (cd (L6)) am
theorem zV : af FL Rt := rl (cx (tQ)) gq
theorem afD : af FL afC := rc (cd (zV)) (cx (tQ)) gq
theorem N0 : af FL Ru := rc (cd (zV)) (cx (tQ)) gq
theorem afG : ∀ i, af FL (an2 i) := rb (cd (N0)) (cx (tQ))
theorem sx : gX Y x11 x12 H =
 la 1 1 [(.int .u8 0)] [(0, (.int .u8 0))] H fun g i =>
 (cz 1 1 x11 g i).bind fun e =>
 (FF bI [e.1] e.2).bind fun b =>
 (ag .other .eql b.1 (vi 0)).bind fun a =>
 (gV a true x12).bind fun j =>
 (gE a true b.2 (la 1 1 [(.int .u8 0)] [(0, (.int .u8 0))] b.2 fun v H => some (v, H))).bind fun c =>
 (gE a true c.2 (cz 1 1 j c.1 c.2)).bind fun d =>
 (gE a true d.2 (FF bI [d.1] d.2)).bind fun f =>
 (gB a true (ag .other .eql f.1 (vi 11))).bind fun k =>
 (aE a k (vb false)).bind fun l =>
 some (l, f.2) :=
 (by kernel_rfl)
theorem iU : gr Z Y x11 x12 x13 H =
 (ag .other .add x13 (vi 1)).bind fun a =>
 eh Z Y x11 x12 a H :=
 (by kernel_rfl)
theorem oA : jD Z Y x11 x12 x13 H = gr Z Y x11 x12 x13 H :=
 (by kernel_rfl)
theorem qL : lr Z Y x11 x12 x13 H =
 (FF aD [Z, (vi 4)] H).bind fun a =>
 (ag .other .neq x13 a.1).bind fun f =>
 aw f
 (la 1 1 [(.int .u8 0)] [(0, (.int .u8 1))] a.2 fun g i =>
 (cz 1 1 x11 g i).bind fun b =>
 la 1 1 [(.int .u8 0)] [(0, (.int .u8 1))] b.2 fun j k =>
 (cz 1 1 x12 j k).bind fun c =>
 jD Z Y b.1 c.1 x13 c.2)
 (la 5 1 [(.int .u8 0)] [(0, (.int .u8 255)), (1, (.int .u8 255)), (2, (.int .u8 255)), (3, (.int .u8 255)), (4, (.int .u8 7))] a.2 fun l m =>
 (cz 1 1 x11 l m).bind fun d =>
 la 5 1 [(.int .u8 0)] [(0, (.int .u8 128)), (1, (.int .u8 128)), (2, (.int .u8 128)), (3, (.int .u8 128)), (4, (.int .u8 8))] d.2 fun n o =>
 (cz 1 1 x12 n o).bind fun e =>
 gr Z Y d.1 e.1 x13 e.2) :=
 (pt rfl 0 (NZ) (bt rfl (qF [1, 1, 1, 1, 1, 1, 1, 1, 0, 1, 4, 5, 1, 0, 4]) 3 (afF) (by kernel_rfl)))
theorem oz : jC Y x11 x12 H = gX Y x11 x12 H :=
 (by kernel_rfl)
theorem iT : eh Z Y x11 x12 x13 H =
 (ag .other .lss x13 (vi 4)).bind fun a =>
 aw a
 (lr Z Y x11 x12 x13 H)
 (jC Y x11 x12 H) :=
 qr rfl (zU) (pt rfl 0 (ae8) (by kernel_rfl))
theorem qK : lq Z Y x11 x12 x13 H =
 eh Z Y x11 x12 x13 H :=
 (bt rfl (qF [1, 1, 1, 1, 1, 1, 1, 1, 0, 1, 4]) 2 (tP) (li rfl (qF [1, 1, 1, 1, 1, 1, 1, 1, 0, 1, 4, 5]) (zU) (by kernel_rfl)))
theorem sw : mm Z Y x11 x12 H =
 lq Z Y x11 x12 (vi 0) H :=
 (pt rfl 0 (L7) (pt rfl 0 (ae6) (by kernel_rfl)))
theorem su : gW Z Y x8 x9 H =
 (cz 1 1 (.slice none 0 0) x9 H).bind fun g =>
 (ag .other .sub (.int .u8 61) x8).bind fun j =>
 la 1 1 [(.int .u8 0)] [(0, j)] g.2 fun k l =>
 (cz 1 1 g.1 k l).bind fun i =>
 (FF bI [i.1] i.2).bind fun b =>
 (ag .other .neq b.1 (vi 11)).bind fun a =>
 (gV a false x9).bind fun m =>
 (gE a false b.2 (cz 1 1 (.slice none 0 0) m b.2)).bind fun c =>
 (gV a false x8).bind fun n =>
 (gB a false (ag .other .sub (.int .u8 60) n)).bind fun o =>
 (gE a false c.2 (la 1 1 [(.int .u8 0)] [(0, o)] c.2 fun v H => some (v, H))).bind fun d =>
 (gE a false d.2 (cz 1 1 c.1 d.1 d.2)).bind fun e =>
 (gE a false e.2 (FF bI [e.1] e.2)).bind fun f =>
 (gB a false (ag .other .neq f.1 (vi 12))).bind fun p =>
 (aE a (vb true) p).bind fun q =>
 aw q
 (some ((vb false), f.2))
 (la 7 1 [(.int .u8 0)] [(0, (.int .u8 1)), (1, (.int .u8 1)), (2, (.int .u8 1)), (3, (.int .u8 0)), (4, (.int .u8 1)), (5, (.int .u8 1)), (6, (.int .u8 1))] f.2 fun s t =>
 la 7 1 [(.int .u8 0)] [(0, (.int .u8 1)), (1, (.int .u8 1)), (2, (.int .u8 1)), (3, (.int .u8 0)), (4, (.int .u8 1)), (5, (.int .u8 1)), (6, (.int .u8 1))] t fun w y =>
 mm Z Y s w y) :=
 (pt rfl 1 (ajX) (by kernel_rfl))
theorem qO : lx Z Y x8 x9 x10 H =
 (ag .other .add x10 (vi 1)).bind fun a =>
 ei Z Y x8 x9 a H :=
 (by kernel_rfl)
theorem qN : lw Z Y x8 x9 x10 H =
 (ag .other .rem x10 (vi 128)).bind fun b =>
 (aO (some .u8) b).bind fun c =>
 la 1 1 [(.int .u8 0)] [(0, c)] H fun d e =>
 (cz 1 1 x9 d e).bind fun a =>
 lx Z Y x8 a.1 x10 a.2 :=
 (pt rfl 0 (N0) (bt rfl (qF [1, 1, 1, 1, 1, 0, 1, 4, 5, 1, 0, 4]) 1 (afG) (by kernel_rfl)))
theorem oB : jE Z Y x8 x9 H = gW Z Y x8 x9 H :=
 (by kernel_rfl)
theorem iV : ei Z Y x8 x9 x10 H =
 (aO (some .i64) x8).bind fun a =>
 (ag .other .mul (vi 4) a).bind fun b =>
 (ag .other .lss x10 b).bind fun c =>
 aw c
 (lw Z Y x8 x9 x10 H)
 (jE Z Y x8 x9 H) :=
 qr rfl (zV) (pt rfl 0 (afD) (by kernel_rfl))
theorem qM : lu Z Y x8 x9 x10 H =
 ei Z Y x8 x9 x10 H :=
 (bt rfl (qF [1, 1, 1, 1, 1, 0, 1, 4]) 0 (tQ) (li rfl (qF [1, 1, 1, 1, 1, 0, 1, 4, 5]) (zV) (by kernel_rfl)))
theorem ss : ml Z Y x8 x9 H =
 lu Z Y x8 x9 (vi 0) H :=
 (pt rfl 0 (L6) (pt rfl 0 (afB) (by kernel_rfl)))
noncomputable def D0 : OV := aM PP GG FF (qF []) (ls [x0, x1, Z] 124) H qG bg qG
theorem yy {r : Value × AH} (h : (
 (FF aD [x0, (vi 6)] H).bind fun y =>
 (ag .other .add (vi 1) y.1).bind fun B =>
 (aO (some .u8) B).bind fun z =>
 (FF aD [x1, (vi 60)] y.2).bind fun A =>
 (aO (some .u8) A.1).bind fun d =>
 (FF bB [] A.2).bind fun g =>
 (xi .not g.1).bind fun a =>
 (gV a false z).bind fun C =>
 (gV a false z).bind fun D =>
 (gB a false (ag .other .add D (.int .u8 1))).bind fun E =>
 (gV a false d).bind fun G =>
 (gB a false (ag .other .add E G)).bind fun I =>
 (gE a false g.2 (la 6 1 [(.int .u8 0)] [(0, (.int .u8 1)), (1, (.int .u8 1)), (2, C), (3, (.int .u8 0)), (4, (.int .u8 1)), (5, I)] g.2 fun v H => some (v, H))).bind fun i =>
 (gE a false i.2 (FF bI [i.1] i.2)).bind fun j =>
 (gB a false (ag .other .neq j.1 (vi 11))).bind fun J =>
 (aE a (vb true) J).bind fun b =>
 (gV b false d).bind fun K =>
 (gB b false (ag .other .add (.int .u8 61) K)).bind fun L =>
 (gE b false j.2 (la 7 1 [(.int .u8 0)] [(0, (.int .u8 1)), (1, (.int .u8 1)), (2, (.int .u8 1)), (3, (.int .u8 0)), (4, (.int .u8 1)), (5, (.int .u8 1)), (6, L)] j.2 fun v H => some (v, H))).bind fun k =>
 (gE b false k.2 (FF bI [k.1] k.2)).bind fun l =>
 (gB b false (ag .other .neq l.1 (vi 11))).bind fun M =>
 (aE b (vb true) M).bind fun c =>
 (gV c false d).bind fun N =>
 (gB c false (ag .other .add (.int .u8 64) N)).bind fun O =>
 (gE c false l.2 (la 8 1 [(.int .u8 0)] [(0, (.int .u8 1)), (1, (.int .u8 1)), (2, (.int .u8 1)), (3, (.int .u8 0)), (4, (.int .u8 1)), (5, (.int .u8 0)), (6, (.int .u8 1)), (7, O)] l.2 fun v H => some (v, H))).bind fun m =>
 (gE c false m.2 (FF bI [m.1] m.2)).bind fun n =>
 (gB c false (ag .other .neq n.1 (vi 11))).bind fun P =>
 (aE c (vb true) P).bind fun e =>
 (gE e false n.2 (la 8 1 [(.int .u8 0)] [(0, (.int .u8 1)), (1, (.int .u8 1)), (2, (.int .u8 1)), (3, (.int .u8 0)), (4, (.int .u8 1)), (5, (.int .u8 0)), (6, (.int .u8 1)), (7, (.int .u8 63))] n.2 fun v H => some (v, H))).bind fun o =>
 (gE e false o.2 (FF bI [o.1] o.2)).bind fun p =>
 (gB e false (ag .other .neq p.1 (vi 0))).bind fun Q =>
 (aE e (vb true) Q).bind fun R =>
 aw R
 (some ((vb false), p.2))
 (la 8 1 [(.int .u8 0)] [(0, (.int .u8 1)), (1, (.int .u8 1)), (2, (.int .u8 1)), (3, (.int .u8 0)), (4, (.int .u8 1)), (5, (.int .u8 0)), (6, (.int .u8 161)), (7, (.int .u8 31))] p.2 fun S T =>
 (FF bI [S] T).bind fun q =>
 (ag .other .neq q.1 (vi 11)).bind fun f =>
 (gE f false q.2 (la 8 1 [(.int .u8 0)] [(0, (.int .u8 1)), (1, (.int .u8 1)), (2, (.int .u8 1)), (3, (.int .u8 0)), (4, (.int .u8 1)), (5, (.int .u8 0)), (6, (.int .u8 160)), (7, (.int .u8 31))] q.2 fun v H => some (v, H))).bind fun s =>
 (gE f false s.2 (FF bI [s.1] s.2)).bind fun w =>
 (gB f false (ag .other .neq w.1 (vi 12))).bind fun U =>
 (aE f (vb true) U).bind fun V =>
 aw V
 (some ((vb false), w.2))
 (la 7 1 [(.int .u8 0)] [(0, (.int .u8 1)), (1, (.int .u8 1)), (2, (.int .u8 2)), (3, (.int .u8 0)), (4, (.int .u8 1)), (5, (.int .u8 2)), (6, d)] w.2 fun W X =>
 ml Z (vb false) d W X))) = some r) : FF ft [x0, x1, Z] H = some r :=
 fo (t := D0 x0 x1 Z H) Tryz.func9 (by kernel_rfl) (Eq.trans (pt rfl 4 (ajW) (by kernel_rfl)) h)
theorem CW {r : Value × AH} (h : (
 bA [(vi 0), (vi 0), (vi 0), (vi 0), (vw 0), (.slice none 0 0)] H fun a l =>
 (FF gD [x0] l).bind fun b =>
 (ar b.1 0).bind fun m =>
 (ar b.1 1).bind fun n =>
 (ar b.1 2).bind fun i =>
 bA [(vi 0), (vi 0), (vi 0), (vi 0), (vw 0), (.slice none 0 0)] b.2 fun e o =>
 (fT 6 e m o).bind fun g =>
 (ag .other .eql i (vi 0)).bind fun c =>
 sq c true  5 [.f 0] e g fun p =>
 (gE c true g (FF gA [p] g)).bind fun d =>
 (gB c true (xi .not d.1)).bind fun q =>
 (aE c q (vb false)).bind fun s =>
 aw s
 (wn [(0, 5), (5, 1)] [(vi 0), (vi 0), (vi 0), (vi 0), (vw 0), (.slice none 0 0)] [] fun t =>
 (fT 6 a t d.2).bind fun j =>
 (aQ 6 a j).bind fun w => some (Value.tuple #[w, (.slice none 0 0), (vi 11)], j))
 ((aQ 6 e d.2).bind fun y =>
 (fT 6 a y d.2).bind fun k =>
 (aQ 6 a k).bind fun z => some (Value.tuple #[z, n, i], k))) = some r) : FF ba [x0] H = some r :=
 fo Tryz.func17 (by kernel_rfl) h
theorem Mc {r : Value × AH} (h : (
 bA (Value.cells x0).toList H fun c g =>
 bA (Value.cells x1).toList g fun d a =>
 ldN 5 [.f 0] c a fun i =>
 ldN 5 [.f 0] d a fun j =>
 (ag (.flat 5) .eql i j).bind fun b =>
 lp b true  [.f 5] c a fun k =>
 lp b true  [.f 5] d a fun l =>
 (gE b true a (FF Cs [k, l, (.func (.func cu) #[] #[])] a)).bind fun e =>
 (aE b e.1 (vb false)).bind fun m =>
 some (m, e.2)) = some r) : FF kP [x0, x1] H = some r :=
 fo Tryz.func19 (by kernel_rfl) h
theorem Oa {r : Value × AH} (h : (
 (FF ba [x0] H).bind fun a =>
 (ar a.1 0).bind fun k =>
 (ar a.1 1).bind fun l =>
 (ar a.1 2).bind fun m =>
 bA [(vi 0), (vi 0), (vi 0), (vi 0), (vw 0), (.slice none 0 0)] a.2 fun g n =>
 (fT 6 g k n).bind fun o =>
 (FF re [x0] o).bind fun b =>
 (ar b.1 0).bind fun p =>
 (ar b.1 1).bind fun q =>
 (ar b.1 2).bind fun s =>
 bA [(vi 0), (vi 0), (vi 0), (vi 0), (vw 0), (.slice none 0 0)] b.2 fun i t =>
 (fT 6 i p t).bind fun c =>
 (ag .other .eql m s).bind fun d =>
 (gB d true (aQ 6 g c)).bind fun w =>
 (gB d true (aQ 6 i c)).bind fun y =>
 (gE d true c (FF kP [w, y] c)).bind fun f =>
 (aE d f.1 (vb false)).bind fun e =>
 (gV e true l).bind fun z =>
 (gV e true q).bind fun A =>
 (gE e true f.2 (FF lc [z, A] f.2)).bind fun j =>
 (aE e j.1 (vb false)).bind fun B =>
 some (B, j.2)) = some r) : FF mA [x0] H = some r :=
 fo Tryz.func20 (by kernel_rfl) h
theorem Hk {r : Value × AH} (h : (
 (FF ba [x0] H).bind fun a =>
 (ar a.1 0).bind fun b =>
 (ar a.1 1).bind fun g =>
 (ar a.1 2).bind fun c =>
 bA [(vi 0), (vi 0), (vi 0), (vi 0), (vw 0), (.slice none 0 0)] a.2 fun d e =>
 (fT 6 d b e).bind fun f =>
 some (c, f)) = some r) : FF bI [x0] H = some r :=
 fo Tryz.func21 (by kernel_rfl) h
theorem Ci {r : Value × AH} (h : (
 (FF mz [x0, x1, (.func (.func dd) #[] #[])] H).bind fun a =>
 some (a.1, a.2)) = some r) : FF lc [x0, x1] H = some r :=
 fo Tryz.func29 (by kernel_rfl) h
noncomputable def wW (p : List Nat) : Code := Code.sub (bh Tryz.f34) p
noncomputable def tm : KK := ed PP (Tryz.f34).results.toList
noncomputable def aaH : KK := CQ (wW [1, 1]) tm bg tm
noncomputable def Hb : OV := aaH (ls [x0, x1, Z, u, u, u, Y] 23) H
noncomputable def Qp : KK := CQ (wW [1, 1, 1]) tm bg tm
noncomputable def aaF : KK := bX me Qp
noncomputable def Hc : OV := Qp (ls [u, u, u, u, u, u, Y] 23) H
noncomputable def aaJ : KK := CQ (wW [1, 1, 0, 1]) aaF bg tm
noncomputable def He : OV := aaJ (ls [x0, x1, Z, u, u, u, Y, x7] 22) H
noncomputable def Qs : KX := BX 0 aaF bg
noncomputable def Lo : KX := iz me (Qs)
noncomputable def Qq : KK := qq (wW [1, 1, 0, 1, 4, 5]) Lo tm
noncomputable def aaG : KK := bX gz Qq
noncomputable def qJ : OV := Qq (ls [x0, x1, Z, u, u, u, Y, x7] 22) H
noncomputable def aaL : KK := CQ (wW [1, 1, 0, 1, 4, 5, 1]) aaG Lo tm
noncomputable def Hf : OV := aaL (ls [x0, x1, Z, u, u, u, Y, x7] 22) H
noncomputable def Qr : KK := CQ (wW [1, 1, 0, 1, 4, 5, 1, 1]) aaG Lo tm
noncomputable def anB : KK := bX gz Qr
noncomputable def Hg : OV := Qr (ls [x0, x1, Z, u, u, u, Y, x7] 22) H
noncomputable def anC : KX := BX 1 anB Lo
noncomputable def zX : OV := Qs 0 (ls [u, u, u, u, u, u, Y] 23) H
theorem ny : af me tm := rf
theorem aaI : af 1073741752 aaH := rc ny am ny
theorem GI : af me Qp := rc ny am ny
theorem aaK : af gz aaJ := rc (cd (GI)) am ny
theorem tn : ∀ i, af me (Qs i) := rb (cd (GI)) am
theorem zA : af gz Qq := rl (cx (tn)) ny
theorem aaM : af gz aaL := rc (cd (zA)) (cx (tn)) ny
theorem NN : af gz Qr := rc (cd (zA)) (cx (tn)) ny
theorem aaN : ∀ i, af gz (anC i) := rb (cd (NN)) (cx (tn))
theorem Ix : Hc Y H =
 some ((vb true), H) :=
 (by kernel_rfl)
theorem IA : Hg x0 x1 Z Y x7 H =
 (ag .other .add x7 (vi 1)).bind fun a =>
 qJ x0 x1 Z Y a H :=
 (by kernel_rfl)
theorem Iz : Hf x0 x1 Z Y x7 H =
 ld [.i 1 x7] x0 H fun b =>
 ld [.i 1 x7] x1 H fun d =>
 (dt Z [b, d]).bind fun c => (FF c.1 c.2 H).bind fun a =>
 (xi .not a.1).bind fun e =>
 aw e
 (some ((vb false), a.2))
 (Hg x0 x1 Z Y x7 a.2) :=
 (pt rfl 0 (NN) (bt rfl (wW [1, 1, 0, 1, 4, 5, 1, 0, 4]) 1 (aaN) (by kernel_rfl)))
theorem DY : zX Y H = Hc Y H :=
 (by kernel_rfl)
theorem xc : qJ x0 x1 Z Y x7 H =
 cB x0 fun a =>
 (ag .other .lss x7 a).bind fun b =>
 aw b
 (Hf x0 x1 Z Y x7 H)
 (zX Y H) :=
 qr rfl (zA) (pt rfl 0 (aaM) (by kernel_rfl))
theorem Iy : He x0 x1 Z Y x7 H =
 qJ x0 x1 Z Y x7 H :=
 (bt rfl (wW [1, 1, 0, 1, 4]) 0 (tn) (li rfl (wW [1, 1, 0, 1, 4, 5]) (zA) (by kernel_rfl)))
theorem Iw : Hb x0 x1 Z Y H =
 He x0 x1 Z Y (vi 0) H :=
 (pt rfl 0 (GI) (pt rfl 0 (aaK) (by kernel_rfl)))
noncomputable def aj4 : OV := aM PP GG FF (wW []) (ls [x0, x1, Z] 27) H tm bg tm
theorem RB {r : Value × AH} (h : (
 cB x0 fun a =>
 cB x1 fun b =>
 (ag .other .neq a b).bind fun c =>
 aw c
 (some ((vb false), H))
 (Hb x0 x1 Z (vb false) H)) = some r) : FF Cs [x0, x1, Z] H = some r :=
 fo (t := aj4 x0 x1 Z H) Tryz.func34 (by kernel_rfl) (Eq.trans (pt rfl 1 (aaI) (by kernel_rfl)) h)
theorem sr {r : Value × AH} (h : (
 (FF q8 [x0, x1, (.func (.func bQ) #[] #[])] H).bind fun a =>
 some (a.1, a.2)) = some r) : FF cu [x0, x1] H = some r :=
 fo Tryz.func35 (by kernel_rfl) h
noncomputable def dQ (p : List Nat) : Code := Code.sub (bh Tryz.f36) p
noncomputable def eu : KK := ed PP (Tryz.f36).results.toList
noncomputable def aaQ : KK := CQ (dQ [1, 1, 1, 1, 1, 1, 1, 1, 1, 1]) eu bg eu
noncomputable def xy : OV := aaQ (ls [x0, u, Z, x3, x4, x5, Y, x7, x8] 136) H
noncomputable def Qt : KK := CQ (dQ [1, 1, 1, 1, 1, 1, 1, 1, 1, 1, 1]) eu bg eu
noncomputable def aaO : KK := bX SI Qt
noncomputable def ku : OV := Qt (ls [x0, u, Z, x3, x4, x5, Y] 138) H
noncomputable def aaS : KK := CQ (dQ [1, 1, 1, 1, 1, 1, 1, 1, 1, 1, 1, 1, 1]) eu bg eu
noncomputable def xz : OV := aaS (ls [x0, u, Z, x3, x4, x5, Y, u, u, u, u, u, u, u, x14, x15] 129) H
noncomputable def Qu : KK := CQ (dQ [1, 1, 1, 1, 1, 1, 1, 1, 1, 1, 1, 1, 1, 1]) eu bg eu
noncomputable def aaP : KK := bX SJ Qu
noncomputable def kw : OV := Qu (ls [x0, u, Z, x3, x4, x5, Y, u, u, u, u, u, u, u, u, x15] 129) H
noncomputable def aaU : KK := CQ (dQ [1, 1, 1, 1, 1, 1, 1, 1, 1, 1, 1, 1, 1, 1, 1]) eu bg eu
noncomputable def gJ : OV := aaU (ls [u, u, Z, x3, x4, x5, Y, u, u, u, u, u, u, u, u, x15] 129) H
noncomputable def Ug : KK := CQ (dQ [1, 1, 1, 1, 1, 1, 1, 1, 1, 1, 1, 1, 1, 0, 1]) aaP bg eu
noncomputable def uu : OV := Ug (ls [x0, u, Z, x3, x4, x5, Y, u, u, u, u, u, u, u, x14, x15, x16] 128) H
noncomputable def Ly : KX := BX 4 aaP bg
noncomputable def Fc : KX := iz SJ (Ly)
noncomputable def Lq : KK := qq (dQ [1, 1, 1, 1, 1, 1, 1, 1, 1, 1, 1, 1, 1, 0, 1, 4, 5]) Fc eu
noncomputable def Uc : KK := bX Pm Lq
noncomputable def fN : OV := Lq (ls [x0, u, Z, x3, x4, x5, Y, u, u, u, u, u, u, u, x14, x15, x16] 128) H
noncomputable def Uh : KK := CQ (dQ [1, 1, 1, 1, 1, 1, 1, 1, 1, 1, 1, 1, 1, 0, 1, 4, 5, 1]) Uc Fc eu
noncomputable def uv : OV := Uh (ls [x0, u, Z, x3, x4, x5, Y, u, u, u, u, u, u, u, x14, x15, x16] 128) H
noncomputable def Lr : KK := CQ (dQ [1, 1, 1, 1, 1, 1, 1, 1, 1, 1, 1, 1, 1, 0, 1, 4, 5, 1, 1]) Uc Fc eu
noncomputable def ajD : KK := bX Pm Lr
noncomputable def uw : OV := Lr (ls [x0, u, Z, x3, x4, x5, Y, u, u, u, u, u, u, u, x14, x15, x16] 128) H
noncomputable def ajF : KX := BX 5 ajD Fc
noncomputable def pQ : OV := Ly 4 (ls [x0, u, Z, x3, x4, x5, Y, u, u, u, u, u, u, u, u, x15] 129) H
noncomputable def Ui : KK := CQ (dQ [1, 1, 1, 1, 1, 1, 1, 1, 1, 1, 0, 1]) aaO bg eu
noncomputable def ux : OV := Ui (ls [x0, u, Z, x3, x4, x5, Y, x7, x8, x9] 135) H
noncomputable def Lz : KX := BX 0 aaO bg
noncomputable def Fd : KX := iz SI (Lz)
noncomputable def Lt : KK := qq (dQ [1, 1, 1, 1, 1, 1, 1, 1, 1, 1, 0, 1, 4, 5]) Fd eu
noncomputable def Ud : KK := bX M7 Lt
noncomputable def fO : OV := Lt (ls [x0, u, Z, x3, x4, x5, Y, x7, x8, x9] 135) H
noncomputable def Uj : KK := CQ (dQ [1, 1, 1, 1, 1, 1, 1, 1, 1, 1, 0, 1, 4, 5, 1]) Ud Fd eu
noncomputable def uy : OV := Uj (ls [x0, u, Z, x3, x4, x5, Y, x7, x8, x9] 135) H
noncomputable def Lu : KK := CQ (dQ [1, 1, 1, 1, 1, 1, 1, 1, 1, 1, 0, 1, 4, 5, 1, 1]) Ud Fd eu
noncomputable def Lp : KK := bX M7 Lu
noncomputable def mI : OV := Lu (ls [x0, u, Z, x3, x4, x5, Y, x7, x8, x9] 135) H
noncomputable def Un : KX := BX 1 Lp Fd
noncomputable def Fe : KX := iz M7 (Un)
noncomputable def Uk : KK := CQ (dQ [1, 1, 1, 1, 1, 1, 1, 1, 1, 1, 0, 1, 4, 5, 1, 0, 4, 1, 1, 1]) Lp Fe eu
noncomputable def uz : OV := Uk (ls [x0, u, Z, x3, x4, x5, Y, x7, x8, x9, x10, x11] 133) H
noncomputable def Lv : KK := CQ (dQ [1, 1, 1, 1, 1, 1, 1, 1, 1, 1, 0, 1, 4, 5, 1, 0, 4, 1, 1, 1, 1]) Lp Fe eu
noncomputable def Ue : KK := bX SK Lv
noncomputable def uA : OV := Lv (ls [x0, u, Z, x3, x4, x5, Y, x7, x8, x9, u, x11] 133) H
noncomputable def Ul : KK := CQ (dQ [1, 1, 1, 1, 1, 1, 1, 1, 1, 1, 0, 1, 4, 5, 1, 0, 4, 1, 1, 1, 0, 1]) Ue Fe eu
noncomputable def uB : OV := Ul (ls [x0, u, Z, x3, x4, x5, Y, x7, x8, x9, x10, x11, x12] 132) H
noncomputable def LA : KX := BX 2 Ue Fe
noncomputable def Ff : KX := iz SK (LA)
noncomputable def Lw : KK := qq (dQ [1, 1, 1, 1, 1, 1, 1, 1, 1, 1, 0, 1, 4, 5, 1, 0, 4, 1, 1, 1, 0, 1, 4, 5]) Ff eu
noncomputable def Uf : KK := bX Pn Lw
noncomputable def jc : OV := Lw (ls [x0, u, Z, x3, x4, x5, Y, x7, x8, x9, x10, x11, x12] 132) H
noncomputable def Um : KK := CQ (dQ [1, 1, 1, 1, 1, 1, 1, 1, 1, 1, 0, 1, 4, 5, 1, 0, 4, 1, 1, 1, 0, 1, 4, 5, 1]) Uf Ff eu
noncomputable def uC : OV := Um (ls [x0, u, Z, x3, x4, x5, Y, x7, x8, x9, x10, x11, x12] 132) H
noncomputable def Lx : KK := CQ (dQ [1, 1, 1, 1, 1, 1, 1, 1, 1, 1, 0, 1, 4, 5, 1, 0, 4, 1, 1, 1, 0, 1, 4, 5, 1, 1]) Uf Ff eu
noncomputable def ajE : KK := bX Pn Lx
noncomputable def uD : OV := Lx (ls [x0, u, Z, x3, x4, x5, Y, x7, x8, x9, x10, x11, x12] 132) H
noncomputable def ajG : KX := BX 3 ajE Ff
noncomputable def dD : OV := LA 2 (ls [x0, u, Z, x3, x4, x5, Y, x7, x8, x9, u, x11] 133) H
noncomputable def pR : OV := Lz 0 (ls [x0, u, Z, x3, x4, x5, Y] 138) H
theorem cy : af 44601490397061246283071436545296723011960803 eu := rf
theorem aaR : af 44601490397061246283071436545296723011960322 aaQ := rc cy am cy
theorem GJ : af SI Qt := rc cy am cy
theorem aaT : af 44601490397061246283071436545296723011911554 aaS := rc cy am cy
theorem GK : af SJ Qu := rc cy am cy
theorem aaV : af 44601490397061246283071436545296723011927939 aaU := rc cy am cy
theorem WC : af Pm Ug := rc (cd (GK)) am cy
theorem pm : ∀ i, af SJ (Ly i) := rb (cd (GK)) am
theorem vZ : af Pm Lq := rl (cx (pm)) cy
theorem WD : af Pm Uh := rc (cd (vZ)) (cx (pm)) cy
theorem Jp : af Pm Lr := rc (cd (vZ)) (cx (pm)) cy
theorem WK : ∀ i, af Pm (ajF i) := rb (cd (Jp)) (cx (pm))
theorem WE : af M7 Ui := rc (cd (GJ)) am cy
theorem pn : ∀ i, af SI (Lz i) := rb (cd (GJ)) am
theorem v8 : af M7 Lt := rl (cx (pn)) cy
theorem WG : af M7 Uj := rc (cd (v8)) (cx (pn)) cy
theorem v9 : af M7 Lu := rc (cd (v8)) (cx (pn)) cy
theorem po : ∀ i, af M7 (Un i) := rb (cd (v9)) (cx (pn))
theorem WH : af 44601490397061246283071436545296723011956738 Uk := rc (cd (v9)) (cx (po)) cy
theorem B9 : af SK Lv := rc (cd (v9)) (cx (po)) cy
theorem WI : af Pn Ul := rc (cd (B9)) (cx (po)) cy
theorem pp : ∀ i, af SK (LA i) := rb (cd (B9)) (cx (po))
theorem wa : af Pn Lw := rl (cx (pp)) cy
theorem WJ : af Pn Um := rc (cd (wa)) (cx (pp)) cy
theorem Jq : af Pn Lx := rc (cd (wa)) (cx (pp)) cy
theorem WL : ∀ i, af Pn (ajG i) := rb (cd (Jq)) (cx (pp))
theorem pV : gJ Z x3 x4 x5 Y x15 H =
 ld [.n, .f 2] x5 H fun d =>
 (ag .other .neq d (vi 0)).bind fun e =>
 aw e
 (wn [(0, 5), (5, 1)] [(vi 0), (vi 0), (vi 0), (vi 0), (vw 0), (.slice none 0 0)] [] fun g =>
 ad [.n, .f 2] x5 fun a =>
 (aA a H).bind fun i =>
 (fT 6 Z g H).bind fun b =>
 ic (aA a b) (aA a H) <|
 (aQ 6 Z b).bind fun j => some (Value.tuple #[j, (.slice none 0 0), i], b))
 ((aQ 6 Y H).bind fun k =>
 (fT 6 Z k H).bind fun c =>
 (aQ 6 Z c).bind fun l => some (Value.tuple #[l, x15, (vi 0)], c)) :=
 (by kernel_rfl)
theorem pU : kw x0 Z x3 x4 x5 Y x15 H =
 ld [.n, .f 2] x5 H fun b =>
 (ag .other .eql b (vi 0)).bind fun a =>
 (gV a true x5).bind fun c =>
 lp a true  [.n, .f 1] c H fun d =>
 (gV a true x0).bind fun e =>
 (za (yv a) true (cB e some) (some undef)).bind fun g =>
 (gB a true (ag .other .lss d g)).bind fun i =>
 (aE a i (vb false)).bind fun j =>
 aw j
 ((FF bW [x5, (vi 11)] H).bind fun k =>
 gJ Z x3 x4 x5 Y x15 k.2)
 (gJ Z x3 x4 x5 Y x15 H) :=
 (pt rfl 0 (aaV) (by kernel_rfl))
theorem AN : uw x0 Z x3 x4 x5 Y x14 x15 x16 H =
 (ag .other .add x16 (vi 1)).bind fun a =>
 fN x0 Z x3 x4 x5 Y x14 x15 a H :=
 (by kernel_rfl)
theorem AM : uv x0 Z x3 x4 x5 Y x14 x15 x16 H =
 (FF aP [x5, (vi 0), (vi 63)] H).bind fun a =>
 la 1 1 [(vi 0)] [(0, a.1)] a.2 fun c d =>
 (cz 1 8 x15 c d).bind fun b =>
 uw x0 Z x3 x4 x5 Y x14 b.1 x16 b.2 :=
 (pt rfl 0 (Jp) (bt rfl (dQ [1, 1, 1, 1, 1, 1, 1, 1, 1, 1, 1, 1, 1, 0, 1, 4, 5, 1, 0, 4]) 5 (WK) (by kernel_rfl)))
theorem gv : pQ x0 Z x3 x4 x5 Y x15 H = kw x0 Z x3 x4 x5 Y x15 H :=
 (by kernel_rfl)
theorem ja : fN x0 Z x3 x4 x5 Y x14 x15 x16 H =
 (ag .other .lss x16 x14).bind fun a =>
 (gV a true x5).bind fun b =>
 lp a true  [.n, .f 2] b H fun c =>
 (gB a true (ag .other .eql c (vi 0))).bind fun d =>
 (aE a d (vb false)).bind fun e =>
 aw e
 (uv x0 Z x3 x4 x5 Y x14 x15 x16 H)
 (pQ x0 Z x3 x4 x5 Y x15 H) :=
 qr rfl (vZ) (pt rfl 0 (WD) (by kernel_rfl))
theorem nQ : uu x0 Z x3 x4 x5 Y x14 x15 x16 H =
 fN x0 Z x3 x4 x5 Y x14 x15 x16 H :=
 (bt rfl (dQ [1, 1, 1, 1, 1, 1, 1, 1, 1, 1, 1, 1, 1, 0, 1, 4]) 4 (pm) (li rfl (dQ [1, 1, 1, 1, 1, 1, 1, 1, 1, 1, 1, 1, 1, 0, 1, 4, 5]) (vZ) (by kernel_rfl)))
theorem pT : xz x0 Z x3 x4 x5 Y x14 x15 H =
 uu x0 Z x3 x4 x5 Y x14 x15 (vi 0) H :=
 (pt rfl 0 (GK) (pt rfl 0 (WC) (by kernel_rfl)))
theorem pS : ku x0 Z x3 x4 x5 Y H =
 (FF aP [x5, (vi 0), (vi 4000)] H).bind fun a =>
 xz x0 Z x3 x4 x5 Y a.1 (.slice none 0 0) a.2 :=
 (pt rfl 1 (aaT) (by kernel_rfl))
theorem nR : mI x0 Z x3 x4 x5 Y x7 x8 x9 H =
 (ag .other .add x9 (vi 1)).bind fun a =>
 fO x0 Z x3 x4 x5 Y x7 x8 a H :=
 (by kernel_rfl)
theorem AS : uA x0 Z x3 x4 x5 Y x7 x8 x9 x11 H =
 ld [.f 5] Y H fun b =>
 la 1 1 [(.slice none 0 0)] [(0, x11)] H fun c d =>
 (cz 1 24 b c d).bind fun a =>
 st 1 [.f 5] Y a.1 a.2 fun e =>
 mI x0 Z x3 x4 x5 Y x7 x8 x9 e :=
 (by kernel_rfl)
theorem AV : uD x0 Z x3 x4 x5 Y x7 x8 x9 x10 x11 x12 H =
 (ag .other .add x12 (vi 1)).bind fun a =>
 jc x0 Z x3 x4 x5 Y x7 x8 x9 x10 x11 a H :=
 (by kernel_rfl)
theorem AU : uC x0 Z x3 x4 x5 Y x7 x8 x9 x10 x11 x12 H =
 (FF aP [x5, (vi 0), (vi 2147483647)] H).bind fun b =>
 wn [(0, 1), (1, 1), (2, 1), (3, 1)] [(vi 0), (vi 0), (vi 0), (vi 0)] [(0, b.1)] fun j =>
 bA [(vi 0), (vi 0), (vi 0), (vi 0)] b.2 fun a k =>
 (fT 4 a j k).bind fun l =>
 (FF aP [x5, (vi 0), (vi 2147483647)] l).bind fun c =>
 st 1 [.f 1] a c.1 c.2 fun m =>
 (FF aP [x5, (vi 0), (vi 2147483647)] m).bind fun d =>
 st 1 [.f 2] a d.1 d.2 fun n =>
 (FF aP [x5, (vi 0), (vi 2147483647)] n).bind fun e =>
 st 1 [.f 3] a e.1 e.2 fun g =>
 (aQ 4 a g).bind fun o =>
 la 1 4 [(vi 0), (vi 0), (vi 0), (vi 0)] [(0, o)] g fun p q =>
 (cz 4 32 x11 p q).bind fun i =>
 uD x0 Z x3 x4 x5 Y x7 x8 x9 x10 i.1 x12 i.2 :=
 (pt rfl 0 (Jq) (bt rfl (dQ [1, 1, 1, 1, 1, 1, 1, 1, 1, 1, 0, 1, 4, 5, 1, 0, 4, 1, 1, 1, 0, 1, 4, 5, 1, 0, 4]) 3 (WL) (by kernel_rfl)))
theorem wz : dD x0 Z x3 x4 x5 Y x7 x8 x9 x11 H = uA x0 Z x3 x4 x5 Y x7 x8 x9 x11 H :=
 (by kernel_rfl)
theorem fw : jc x0 Z x3 x4 x5 Y x7 x8 x9 x10 x11 x12 H =
 (ag .other .lss x12 x10).bind fun a =>
 (gV a true x5).bind fun b =>
 lp a true  [.n, .f 2] b H fun c =>
 (gB a true (ag .other .eql c (vi 0))).bind fun d =>
 (aE a d (vb false)).bind fun e =>
 aw e
 (uC x0 Z x3 x4 x5 Y x7 x8 x9 x10 x11 x12 H)
 (dD x0 Z x3 x4 x5 Y x7 x8 x9 x11 H) :=
 qr rfl (wa) (pt rfl 0 (WJ) (by kernel_rfl))
theorem AT : uB x0 Z x3 x4 x5 Y x7 x8 x9 x10 x11 x12 H =
 jc x0 Z x3 x4 x5 Y x7 x8 x9 x10 x11 x12 H :=
 (bt rfl (dQ [1, 1, 1, 1, 1, 1, 1, 1, 1, 1, 0, 1, 4, 5, 1, 0, 4, 1, 1, 1, 0, 1, 4]) 2 (pp) (li rfl (dQ [1, 1, 1, 1, 1, 1, 1, 1, 1, 1, 0, 1, 4, 5, 1, 0, 4, 1, 1, 1, 0, 1, 4, 5]) (wa) (by kernel_rfl)))
theorem AQ : uz x0 Z x3 x4 x5 Y x7 x8 x9 x10 x11 H =
 uB x0 Z x3 x4 x5 Y x7 x8 x9 x10 x11 (vi 0) H :=
 (pt rfl 0 (B9) (pt rfl 0 (WI) (by kernel_rfl)))
theorem AP : uy x0 Z x3 x4 x5 Y x7 x8 x9 H =
 (FF aP [x5, (vi 0), x7] H).bind fun a =>
 (ag .other .sub x7 a.1).bind fun b =>
 uz x0 Z x3 x4 x5 Y b x8 x9 a.1 (.slice none 0 0) a.2 :=
 (pt rfl 0 (v9) (bt rfl (dQ [1, 1, 1, 1, 1, 1, 1, 1, 1, 1, 0, 1, 4, 5, 1, 0, 4]) 1 (po) (pt rfl 2 (WH) (by kernel_rfl))))
theorem gx : pR x0 Z x3 x4 x5 Y H = ku x0 Z x3 x4 x5 Y H :=
 (by kernel_rfl)
theorem jb : fO x0 Z x3 x4 x5 Y x7 x8 x9 H =
 (ag .other .lss x9 x8).bind fun a =>
 (gV a true x5).bind fun b =>
 lp a true  [.n, .f 2] b H fun c =>
 (gB a true (ag .other .eql c (vi 0))).bind fun d =>
 (aE a d (vb false)).bind fun e =>
 aw e
 (uy x0 Z x3 x4 x5 Y x7 x8 x9 H)
 (pR x0 Z x3 x4 x5 Y H) :=
 qr rfl (v8) (pt rfl 0 (WG) (by kernel_rfl))
theorem AO : ux x0 Z x3 x4 x5 Y x7 x8 x9 H =
 fO x0 Z x3 x4 x5 Y x7 x8 x9 H :=
 (bt rfl (dQ [1, 1, 1, 1, 1, 1, 1, 1, 1, 1, 0, 1, 4]) 0 (pn) (li rfl (dQ [1, 1, 1, 1, 1, 1, 1, 1, 1, 1, 0, 1, 4, 5]) (v8) (by kernel_rfl)))
theorem CN : xy x0 Z x3 x4 x5 Y x7 x8 H =
 ux x0 Z x3 x4 x5 Y x7 x8 (vi 0) H :=
 (pt rfl 0 (GJ) (pt rfl 0 (WE) (by kernel_rfl)))
noncomputable def R3 : OV := aM PP GG FF (dQ []) (ls [x0] 144) H eu bg eu
theorem IG {r : Value × AH} (h : (
 bA [(vi 0), (vi 0), (vi 0), (vi 0), (vw 0), (.slice none 0 0)] H fun l m =>
 wn [(0, 1), (1, 1), (2, 1)] [(.slice none 0 0), (vi 0), (vi 0)] [(0, x0)] fun n =>
 bA (Value.cells n).toList m fun b o =>
 wn [(0, 5), (5, 1)] [(vi 0), (vi 0), (vi 0), (vi 0), (vw 0), (.slice none 0 0)] [] fun p =>
 bA [(vi 0), (vi 0), (vi 0), (vi 0), (vw 0), (.slice none 0 0)] o fun a q =>
 (fT 6 a p q).bind fun s =>
 (FF aP [b, (vi 1), (vi 4)] s).bind fun c =>
 st 1 [.f 0, .f 0] a c.1 c.2 fun w =>
 (FF aP [b, (vi 1), (vi 4)] w).bind fun d =>
 st 1 [.f 0, .f 1] a d.1 d.2 fun y =>
 (FF aP [b, (vi 1), (vi 6)] y).bind fun e =>
 st 1 [.f 0, .f 2] a e.1 e.2 fun z =>
 (FF aP [b, (vi 0), (vi 40)] z).bind fun g =>
 st 1 [.f 0, .f 3] a g.1 g.2 fun A =>
 (FF f0 [b, (vw 1), (vw 4611686018427387904)] A).bind fun i =>
 st 1 [.f 0, .f 4] a i.1 i.2 fun j =>
 ld [.f 0, .f 2] a j fun B =>
 (FF aP [b, (vi 0), B] j).bind fun k =>
 xy x0 l (.slice none 0 0) (vi 0) b a (vi 60) k.1 k.2) = some r) : FF re [x0] H = some r :=
 fo (t := R3 x0 H) Tryz.func36 (by kernel_rfl) (Eq.trans (pt rfl 9 (aaR) (by kernel_rfl)) h)
noncomputable def wZ (p : List Nat) : Code := Code.sub (bh Tryz.f42) p
noncomputable def tw : KK := ed PP (Tryz.f42).results.toList
noncomputable def abY : KK := CQ (wZ [1, 1]) tw bg tw
noncomputable def rK : OV := abY (ls [x0, x1, Z, u, u, u, Y] 23) H
noncomputable def QK : KK := CQ (wZ [1, 1, 1]) tw bg tw
noncomputable def abW : KK := bX me QK
noncomputable def rL : OV := QK (ls [u, u, u, u, u, u, Y] 23) H
noncomputable def ab0 : KK := CQ (wZ [1, 1, 0, 1]) abW bg tw
noncomputable def rM : OV := ab0 (ls [x0, x1, Z, u, u, u, Y, x7] 22) H
noncomputable def QN : KX := BX 0 abW bg
noncomputable def LH : KX := iz me (QN)
noncomputable def QL : KK := qq (wZ [1, 1, 0, 1, 4, 5]) LH tw
noncomputable def abX : KK := bX gz QL
noncomputable def gQ : OV := QL (ls [x0, x1, Z, u, u, u, Y, x7] 22) H
noncomputable def acB : KK := CQ (wZ [1, 1, 0, 1, 4, 5, 1]) abX LH tw
noncomputable def rN : OV := acB (ls [x0, x1, Z, u, u, u, Y, x7] 22) H
noncomputable def QM : KK := CQ (wZ [1, 1, 0, 1, 4, 5, 1, 1]) abX LH tw
noncomputable def anI : KK := bX gz QM
noncomputable def rO : OV := QM (ls [x0, x1, Z, u, u, u, Y, x7] 22) H
noncomputable def anJ : KX := BX 1 anI LH
noncomputable def nI : OV := QN 0 (ls [u, u, u, u, u, u, Y] 23) H
theorem nC : af me tw := rf
theorem abZ : af 1073741752 abY := rc nC am nC
theorem GQ : af me QK := rc nC am nC
theorem acA : af gz ab0 := rc (cd (GQ)) am nC
theorem tx : ∀ i, af me (QN i) := rb (cd (GQ)) am
theorem zF : af gz QL := rl (cx (tx)) nC
theorem acC : af gz acB := rc (cd (zF)) (cx (tx)) nC
theorem NR : af gz QM := rc (cd (zF)) (cx (tx)) nC
theorem acD : ∀ i, af gz (anJ i) := rb (cd (NR)) (cx (tx))
theorem yr : rL Y H =
 some ((vb true), H) :=
 (by kernel_rfl)
theorem yx : rO x0 x1 Z Y x7 H =
 (ag .other .add x7 (vi 1)).bind fun a =>
 gQ x0 x1 Z Y a H :=
 (by kernel_rfl)
theorem yw : rN x0 x1 Z Y x7 H =
 ld [.i 1 x7] x0 H fun b =>
 ld [.i 1 x7] x1 H fun d =>
 (dt Z [b, d]).bind fun c => (FF c.1 c.2 H).bind fun a =>
 (xi .not a.1).bind fun e =>
 aw e
 (some ((vb false), a.2))
 (rO x0 x1 Z Y x7 a.2) :=
 (pt rfl 0 (NR) (bt rfl (wZ [1, 1, 0, 1, 4, 5, 1, 0, 4]) 1 (acD) (by kernel_rfl)))
theorem tR : nI Y H = rL Y H :=
 (by kernel_rfl)
theorem mi : gQ x0 x1 Z Y x7 H =
 cB x0 fun a =>
 (ag .other .lss x7 a).bind fun b =>
 aw b
 (rN x0 x1 Z Y x7 H)
 (nI Y H) :=
 qr rfl (zF) (pt rfl 0 (acC) (by kernel_rfl))
theorem yu : rM x0 x1 Z Y x7 H =
 gQ x0 x1 Z Y x7 H :=
 (bt rfl (wZ [1, 1, 0, 1, 4]) 0 (tx) (li rfl (wZ [1, 1, 0, 1, 4, 5]) (zF) (by kernel_rfl)))
theorem yq : rK x0 x1 Z Y H =
 rM x0 x1 Z Y (vi 0) H :=
 (pt rfl 0 (GQ) (pt rfl 0 (acA) (by kernel_rfl)))
noncomputable def Md : OV := aM PP GG FF (wZ []) (ls [x0, x1, Z] 27) H tw bg tw
theorem DZ {r : Value × AH} (h : (
 cB x0 fun a =>
 cB x1 fun b =>
 (ag .other .neq a b).bind fun c =>
 aw c
 (some ((vb false), H))
 (rK x0 x1 Z (vb false) H)) = some r) : FF mz [x0, x1, Z] H = some r :=
 fo (t := Md x0 x1 Z H) Tryz.func42 (by kernel_rfl) (Eq.trans (pt rfl 1 (abZ) (by kernel_rfl)) h)
theorem yp {r : Value × AH} (h : (
 (ag .other .eql x0 x1).bind fun a =>
 some (a, H)) = some r) : FF dd [x0, x1] H = some r :=
 fo Tryz.func43 (by kernel_rfl) h
noncomputable def w4 (p : List Nat) : Code := Code.sub (bh Tryz.f56) p
noncomputable def tA : KK := ed PP (Tryz.f56).results.toList
noncomputable def acO : KK := CQ (w4 [1, 1]) tA bg tA
noncomputable def w7 : OV := acO (ls [x0, x1, Z, u, u, u, Y] 23) H
noncomputable def QT : KK := CQ (w4 [1, 1, 1]) tA bg tA
noncomputable def acM : KK := bX me QT
noncomputable def w8 : OV := QT (ls [u, u, u, u, u, u, Y] 23) H
noncomputable def acQ : KK := CQ (w4 [1, 1, 0, 1]) acM bg tA
noncomputable def w9 : OV := acQ (ls [x0, x1, Z, u, u, u, Y, x7] 22) H
noncomputable def QW : KX := BX 0 acM bg
noncomputable def LN : KX := iz me (QW)
noncomputable def QU : KK := qq (w4 [1, 1, 0, 1, 4, 5]) LN tA
noncomputable def acN : KK := bX gz QU
noncomputable def kg : OV := QU (ls [x0, x1, Z, u, u, u, Y, x7] 22) H
noncomputable def acS : KK := CQ (w4 [1, 1, 0, 1, 4, 5, 1]) acN LN tA
noncomputable def xa : OV := acS (ls [x0, x1, Z, u, u, u, Y, x7] 22) H
noncomputable def QV : KK := CQ (w4 [1, 1, 0, 1, 4, 5, 1, 1]) acN LN tA
noncomputable def anK : KK := bX gz QV
noncomputable def xb : OV := QV (ls [x0, x1, Z, u, u, u, Y, x7] 22) H
noncomputable def anL : KX := BX 1 anK LN
noncomputable def rJ : OV := QW 0 (ls [u, u, u, u, u, u, Y] 23) H
theorem nD : af me tA := rf
theorem acP : af 1073741752 acO := rc nD am nD
theorem GS : af me QT := rc nD am nD
theorem acR : af gz acQ := rc (cd (GS)) am nD
theorem tB : ∀ i, af me (QW i) := rb (cd (GS)) am
theorem zI : af gz QU := rl (cx (tB)) nD
theorem acT : af gz acS := rc (cd (zI)) (cx (tB)) nD
theorem NS : af gz QV := rc (cd (zI)) (cx (tB)) nD
theorem acU : ∀ i, af gz (anL i) := rb (cd (NS)) (cx (tB))
theorem Cd : w8 Y H =
 some ((vb true), H) :=
 (by kernel_rfl)
theorem Cg : xb x0 x1 Z Y x7 H =
 (ag .other .add x7 (vi 1)).bind fun a =>
 kg x0 x1 Z Y a H :=
 (by kernel_rfl)
theorem Cf : xa x0 x1 Z Y x7 H =
 ldN 4 [.i 4 x7] x0 H fun b =>
 ldN 4 [.i 4 x7] x1 H fun d =>
 (dt Z [b, d]).bind fun c => (FF c.1 c.2 H).bind fun a =>
 (xi .not a.1).bind fun e =>
 aw e
 (some ((vb false), a.2))
 (xb x0 x1 Z Y x7 a.2) :=
 (pt rfl 0 (NS) (bt rfl (w4 [1, 1, 0, 1, 4, 5, 1, 0, 4]) 1 (acU) (by kernel_rfl)))
theorem yo : rJ Y H = w8 Y H :=
 (by kernel_rfl)
theorem pA : kg x0 x1 Z Y x7 H =
 cB x0 fun a =>
 (ag .other .lss x7 a).bind fun b =>
 aw b
 (xa x0 x1 Z Y x7 H)
 (rJ Y H) :=
 qr rfl (zI) (pt rfl 0 (acT) (by kernel_rfl))
theorem Ce : w9 x0 x1 Z Y x7 H =
 kg x0 x1 Z Y x7 H :=
 (bt rfl (w4 [1, 1, 0, 1, 4]) 0 (tB) (li rfl (w4 [1, 1, 0, 1, 4, 5]) (zI) (by kernel_rfl)))
theorem Cc : w7 x0 x1 Z Y H =
 w9 x0 x1 Z Y (vi 0) H :=
 (pt rfl 0 (GS) (pt rfl 0 (acR) (by kernel_rfl)))
noncomputable def RA : OV := aM PP GG FF (w4 []) (ls [x0, x1, Z] 27) H tA bg tA
theorem Iv {r : Value × AH} (h : (
 cB x0 fun a =>
 cB x1 fun b =>
 (ag .other .neq a b).bind fun c =>
 aw c
 (some ((vb false), H))
 (w7 x0 x1 Z (vb false) H)) = some r) : FF q8 [x0, x1, Z] H = some r :=
 fo (t := RA x0 x1 Z H) Tryz.func56 (by kernel_rfl) (Eq.trans (pt rfl 1 (acP) (by kernel_rfl)) h)
theorem pB {r : Value × AH} (h : (
 bA (Value.cells x0).toList H fun b c =>
 bA (Value.cells x1).toList c fun d a =>
 (aQ 4 b a).bind fun e =>
 (aQ 4 d a).bind fun f =>
 (ag (.flat 4) .eql e f).bind fun g =>
 some (g, a)) = some r) : FF bQ [x0, x1] H = some r :=
 fo Tryz.func57 (by kernel_rfl) h
theorem A8 {r : Value × AH} (h : (
 (aO (some .u64) x1).bind fun b =>
 (aO (some .u64) Z).bind fun c =>
 (FF f0 [x0, b, c] H).bind fun a =>
 (aO (some .i64) a.1).bind fun d =>
 some (d, a.2)) = some r) : FF aP [x0, x1, Z] H = some r :=
 fo Tryz.func58 (by kernel_rfl) h
end
section
variable (R S T X V W U : Value) (H : AH)
noncomputable def GT (p : List Nat) : Code := Code.sub (bh Tryz.f59) p
noncomputable def DB : KK := ed PP (Tryz.f59).results.toList
noncomputable def acV : KK := CQ (GT [1, 1, 1, 1]) DB bg DB
noncomputable def nU : OV := acV (ls [R, S, T, u, u, u, V, W, U] 71) H
noncomputable def acX : KX := BX 0 DB bg
noncomputable def QZ : KX := iz Yg (acX)
noncomputable def QX : KK := qq (GT [1, 1, 1, 1, 4, 5]) QZ DB
noncomputable def anM : KK := bX IZ QX
noncomputable def fy : OV := QX (ls [R, S, T, u, u, u, V, W, U] 71) H
noncomputable def QY : KK := CQ (GT [1, 1, 1, 1, 4, 5, 1]) anM QZ DB
noncomputable def anN : KK := bX IZ QY
noncomputable def nV : OV := QY (ls [R, S, T, u, u, u, V, W, U] 71) H
noncomputable def anO : KX := BX 1 anN QZ
theorem zJ : af Yg DB := rf
theorem acW : af IZ acV := rc zJ am zJ
theorem zK : ∀ i, af Yg (acX i) := rb zJ am
theorem GU : af IZ QX := rl (cx (zK)) zJ
theorem NT : af IZ QY := rc (cd (GU)) (cx (zK)) zJ
theorem acY : ∀ i, af IZ (anO i) := rb (cd (NT)) (cx (zK))
theorem uL : nV R S T V W U H =
 (ag .other .add U (vi 1)).bind fun a =>
 fy R S T V W a H :=
 (by kernel_rfl)
theorem kW : fy R S T V W U H =
 ld [.n, .f 1] R H fun m =>
 ld [.n, .f 0] R H fun o =>
 cB o fun p =>
 (ag .other .geq m p).bind fun q =>
 aw q
 ((FF bW [R, (vi 12)] H).bind fun j =>
 some (j.1, j.2))
 ((ag .other .eql U (vi 9)).bind fun s =>
 aw s
 ((FF bW [R, (vi 11)] H).bind fun k =>
 some (k.1, k.2))
 (ld [.n, .f 0] R H fun t =>
 ld [.n, .f 1] R H fun w =>
 ld [.i 1 w] t H fun d =>
 ld [.n, .f 1] R H fun y =>
 (ag .other .add y (vi 1)).bind fun z =>
 st 1 [.n, .f 1] R z H fun e =>
 (ag .other .rem d (.int .u8 128)).bind fun A =>
 (aO (some .u64) A).bind fun B =>
 (ag .other .mul (vi 7) U).bind fun C =>
 (aO (some .u64) C).bind fun D =>
 (ag .other .shl B D).bind fun E =>
 (ag .other .add W E).bind fun a =>
 (ag .other .lss d (.int .u8 128)).bind fun G =>
 aw G
 ((ag .other .eql d (.int .u8 0)).bind fun g =>
 (gV g true U).bind fun I =>
 (gB g true (ag .other .gtr I (vi 0))).bind fun J =>
 (aE g J (vb false)).bind fun b =>
 (gV b false a).bind fun K =>
 (gV b false S).bind fun L =>
 (gB b false (ag .other .lss K L)).bind fun M =>
 (aE b (vb true) M).bind fun c =>
 (gV c false a).bind fun N =>
 (gV c false T).bind fun O =>
 (gB c false (ag .other .gtr N O)).bind fun P =>
 (aE c (vb true) P).bind fun Q =>
 aw Q
 ((FF bW [R, (vi 11)] e).bind fun l =>
 some (l.1, l.2))
 (some (a, e)))
 (nV R S T V a U e))) :=
 qr rfl (GU) (pt rfl 0 (NT) (bt rfl (GT [1, 1, 1, 1, 4, 5, 0, 4]) 1 (acY) (by kernel_rfl)))
theorem uK : nU R S T V W U H =
 fy R S T V W U H :=
 (bt rfl (GT [1, 1, 1, 1, 4]) 0 (zK) (li rfl (GT [1, 1, 1, 1, 4, 5]) (GU) (by kernel_rfl)))
noncomputable def HH : OV := aM PP GG FF (GT []) (ls [R, S, T] 77) H DB bg DB
theorem A9 {r : Value × AH} (h : (
 ld [.n, .f 2] R H fun a =>
 (ag .other .neq a (vi 0)).bind fun b =>
 aw b
 (some ((vw 0), H))
 (nU R S T (vw 0) (vw 0) (vi 0) H)) = some r) : FF f0 [R, S, T] H = some r :=
 fo (t := HH R S T H) Tryz.func59 (by kernel_rfl) (Eq.trans (pt rfl 3 (acW) (by kernel_rfl)) h)
noncomputable def adD (p : List Nat) : Code := Code.sub (bh Tryz.f60) p
noncomputable def GV : KK := ed PP (Tryz.f60).results.toList
noncomputable def adE : KK := CQ (adD [1]) GV bg GV
noncomputable def mK : OV := adE (ls [R, S, u, u, X] 9) H
noncomputable def adG : KK := CQ (adD [1, 1]) GV bg GV
noncomputable def gZ : OV := adG (ls [u, u, u, u, X] 9) H
theorem Fj : af 16367 GV := rf
theorem adF : af 16364 adE := rc Fj am Fj
theorem adH : af 16367 adG := rc Fj am Fj
theorem sJ : gZ X H =
 some ((vw 0), H) :=
 (by kernel_rfl)
theorem sI : mK R S X H =
 ld [.n, .f 2] R H fun a =>
 (ag .other .eql a (vi 0)).bind fun b =>
 aw b
 (st 1 [.n, .f 2] R S H fun c =>
 gZ X c)
 (gZ X H) :=
 (pt rfl 0 (adH) (by kernel_rfl))
noncomputable def EC : OV := aM PP GG FF (adD []) (ls [R, S] 12) H GV bg GV
theorem yQ {r : Value × AH} (h : (
 mK R S (vw 0) H) = some r) : FF bW [R, S] H = some r :=
 fo (t := EC R S H) Tryz.func60 (by kernel_rfl) (Eq.trans (pt rfl 0 (adF) (by kernel_rfl)) h)
end
theorem bS {α β : Type} {p : Ps α} {f : α → Ps β} {L : List Nat} {x : β × List Nat} (h : aZ p f L = .ok x) : ∃ a r, p L = .ok (a, r) ∧ f a r = .ok x := by
 unfold aZ at h
 split at h
 ·rename_i a r e; exact ⟨a, r, e, h⟩
 ·cases h
theorem F6 {L : List Nat} {c : CfN} {r : List Nat} (h : Ir L = .ok (c, r)) : dn (lk c) = true := by
 unfold Ir at h;obtain ⟨sh, r1, e1, h⟩ := bS h;obtain ⟨sl, r2, e2, h⟩ := bS h;obtain ⟨wk, r3, e3, h⟩ := bS h;obtain ⟨wd, r4, e4, h⟩ := bS h;obtain ⟨un, r5, e5, h⟩ := bS h;cases h;have := j8 e1;have := j8 e2;have := j8 e3;have := j8 e4;have := j8 e5;refine aT.2 ?_;unfold lk;dsimp only;omega
theorem Kg {L : List Nat} {s : ScN} (h : bC L = .ok s) : dn (lk s.c) = true := by
 unfold bC at h
 split at h
 ·rename_i x e
  cases h;unfold OB at e;obtain ⟨p, r1, e1, e⟩ := bS e;obtain ⟨k, r2, e2, e⟩ := bS e;obtain ⟨pk, r3, e3, e⟩ := bS e;cases e;unfold ul at e1;obtain ⟨c, r4, e4, e1⟩ := bS e1;obtain ⟨n, r5, e5, e1⟩ := bS e1;obtain ⟨ls, r6, e6, e1⟩ := bS e1;cases e1;exact F6 e4
 ·cases h
 ·cases h
def X3 {α : Type} (p : Ps α) : Prop := ∀ L e, p L = .error e → e = 11 ∨ e = 12
theorem YT : ∀ (L : List Nat) (i n : Nat) (e : Int), iI L i n = .error e → e = 11 ∨ e = 12 := by
 intro L
 induction L with
 | nil => intro i n e h; cases h; exact .inr rfl
 | cons x L ih =>
  intro i n e h;unfold iI at h
  split at h
  ·cases h; exact .inl rfl
  split at h
  ·exact ih _ _ _ h
  split at h
  ·cases h; exact .inl rfl
  ·cases h
theorem fW (lo hi : Nat) : X3 (fM lo hi) := by
 intro L e h;unfold fM at h
 split at h
 ·split at h
  ·cases h; exact .inl rfl
  ·cases h
 ·rename_i e' he
  cases h;exact YT _ _ _ _ he
theorem kE {α : Type} (x : α) : X3 (dV x) := fun L e h => by cases h
theorem co {α β : Type} {p : Ps α} {f : α → Ps β} (h1 : X3 p) (h2 : ∀ a, X3 (f a)) : X3 (aZ p f) := by
 intro L e h;unfold aZ at h
 split at h
 ·rename_i a r _; exact h2 a _ _ h
 ·rename_i e' he
  cases h;exact h1 _ _ he
theorem Gn {α : Type} {p : Ps α} (h : X3 p) : ∀ k, X3 (dA p k)
 | 0 => kE []
 | k + 1 => co h fun a => co (Gn h k) fun ys => kE _
theorem YS : X3 iG := co (fW _ _) fun _ => co (fW _ _) fun _ => co (fW _ _) fun _ => co (fW _ _) fun _ => kE _
theorem Jd : ∀ w left, X3 (dG w left)
 | 0, _ => kE []
 | w + 1, left => co (fW _ _) fun n => co (Gn YS n) fun l => co (Jd w (left - n)) fun ls => kE _
theorem YU : X3 ul := co (co (fW _ _) fun _ => co (fW _ _) fun _ => co (fW _ _) fun _ => co (fW _ _) fun _ => co (fW _ _) fun _ => kE _) fun c => co (fW _ _) fun n => co (Jd n 60) fun ls => kE _
theorem aiR : X3 OB := co YU fun p => co (fW _ _) fun k => co (Gn (fW _ _) k) fun pk => kE _
theorem PB {L : List Nat} {e : Int} (h : bC L = .error e) : e = 11 ∨ e = 12 := by
 unfold bC at h
 split at h
 ·cases h
 ·cases h; exact .inl rfl
 ·rename_i e' he
  cases h;exact aiR _ _ he
section
variable {R : SP}
theorem fA {v : Value} {L : List Nat} {H : AH} (r : Rd R v 1 aG L) (hL : ∀ y ∈ L, y < 256) (hlen : (L.length : Int) < 9223372036854775808) (h : ac R H) :
 wp (FF ba [v] H) (da R (bC L)) := by
 refine eD (fun r => CW _ H) ?_;refine ce h fun b0 H1 h1 => ?_;obtain ⟨rv, H2, e2, hq⟩ := agT (R := blk b0 (.cells false [vi 0, vi 0, vi 0, vi 0, vw 0, .slice none 0 0]) * R) (v := v) (L := L) inferInstance hL hlen h1;rw [e2, aB];unfold da at hq
 cases hd : bC L with
 | error e =>
  rw [hd] at hq;obtain ⟨rfl, h2⟩ := hq;refine aa (v := .agg zeroP.toArray) rfl ?_;refine aa (v := .slice none 0 0) rfl ?_;refine aa (v := vi e) rfl ?_;refine ce h2 fun b1 H3 h3 => ?_;refine cS h3 rfl rfl fun H4 h4 => ?_
  have fin : wp ((aQ 6 (vp b1) H4).bind fun v17 => (fT 6 (vp b0) v17 H4).bind fun H18 => (aQ 6 (vp b0) H18).bind fun v19 => some (Value.tuple #[v19, .slice none 0 0, vi e], H18)) (da R (.error e)) := by
   refine bx h4 ?_;refine cS h4 rfl rfl fun H5 h5 => ?_;refine bx h5 ?_;exact ay ⟨rfl, h5.to⟩
  refine aa (nw (by rcases PB hd with h0 | h0 <;> omega)) ?_
  refine gs ?_;exact fin
 | ok s =>
  rw [hd] at hq;obtain ⟨sv, ps, pv, rfl, hps, h2⟩ := hq;refine aa (v := .agg (aK (lk s.c) sv.v).toArray) rfl ?_;refine aa (v := pv) rfl ?_;refine aa (v := vi 0) rfl ?_;refine ce h2 fun b1 H3 h3 => ?_;refine cS h3 rfl rfl fun H4 h4 => ?_;refine aa (cM rfl) ?_;refine gs ?_;refine xV h4 aj ?_;refine MR ?_;refine ah h4 (t6 (lk s.c)) fun _ H5 h5 => ?_;rw [Kg hd];refine aa (Cb jw) ?_;rw [Bool.not_true];refine gs ?_;refine bx h5 ?_;refine cS h5 rfl rfl fun H6 h6 => ?_;refine bx h6 ?_;exact ay ⟨sv, ps, pv, rfl, hps, h6.to⟩
end
theorem Jc {l : List Nat} {n : Nat} (h : ¬ n < 128) : l ++ aJ n = (l ++ [n % 128 + 128]) ++ aJ (n / 128) := by
 rw [s7 h, List.append_assoc]; rfl
theorem agP {R : SP} : ∀ (k n : Nat) (s : Value) (l : List Nat) (H : AH), n < 2 ^ (7 * k) → l.length + k ≤ 1000000 → ac (ts 1 aG s l * R) H →
 wp (kB s (vu n) (.slice none 0 0) H) fun v' H' => ∃ v : Value, v' = v ∧ ac (ts 1 aG v (l ++ aJ n) * R) H' := by
 intro k
 induction k with
 | zero =>
  intro n s l H hn hl h
  have hn0 : n = 0 := by simpa using hn
  subst hn0;refine ae (qk _ _ _ H) ?_;refine aa (iP (by omega)) ?_;refine gs ?_;refine ae (mO _ _ _ H) ?_;refine ae (qj _ _ _ H) ?_;refine aa (vF) ?_;refine IP h fun b0 H5 h5 => ?_;refine d8 (s := s) (l := l) (0 : Nat) h5 rfl ?_ (by omega) fun a c H6 h6 => ?_
  ·unfold cg; omega
  rw [dk (by omega)];exact ay ⟨_, rfl, h6.to⟩
 | succ k ih =>
  intro n s l H hn hl h;refine ae (qk _ _ _ H) ?_
  by_cases hc : n < 128
  ·refine aa (iP (by omega)) ?_
   refine gs ?_;refine ae (mO _ _ _ H) ?_;refine ae (qj _ _ _ H) ?_;refine aa (vF) ?_;refine IP h fun b0 H5 h5 => ?_;refine d8 (s := s) (l := l) (n : Nat) h5 (by rw [show n % 256 = n by omega]) ?_ (by omega) fun a c H6 h6 => ?_
   ·unfold cg; omega
   rw [dk hc];exact ay ⟨_, rfl, h6.to⟩
  ·refine aa (iQ (by omega)) ?_
   refine gs ?_;refine ae (C5 _ _ _ H) ?_;refine aa (vF) ?_;refine aa (apG (by omega)) ?_;refine IP h fun b0 H5 h5 => ?_;refine d8 (s := s) (l := l) (n % 128 + 128 : Nat) h5 (by rw [show n % 256 % 128 = n % 128 by omega]) ?_ (by omega) fun a c H6 h6 => ?_
   ·unfold cg; omega
   refine ae (C6 _ _ _ H6) ?_;refine aa (aqP) ?_;rw [Jc hc];refine ih (n / 128) _ _ H6 ?_ ?_ h6.to
   ·rw [Nat.div_lt_iff_lt_mul (by omega)]
    rw [Nat.mul_add, Nat.pow_add] at hn;exact hn
   ·simp only [cT, List.length_cons, List.length_nil]; omega
theorem dI (s : Value) (l : List Nat) (n : Nat) (hn : n < 18446744073709551616) (hl : l.length ≤ 100000) : Sp dp [s, vu n] (ts 1 aG s l) (fun v : Value => v) (fun v => ts 1 aG v (l ++ aJ n)) := by
 refine gb (IN _ _) fun R H h => ?_;refine ae (C4 _ _ _ H) ?_;exact agP 10 n s l H (Nat.lt_of_lt_of_le hn (by decide)) (by omega) h
theorem Xz {R : SP} : ∀ (k n : Nat) (s : Value) (l : List Nat) (H : AH), n < 18446744073709551616 → n < 2 ^ (7 * k) → l.length + k ≤ 1000000 → ac (ts 1 aG s l * R) H →
 wp (rq s (vu n) (.slice none 0 0) H) fun v' H' => ∃ v : Value, v' = v ∧ ac (ts 1 aG v (l ++ aJ n) * R) H' := by
 intro k
 induction k with
 | zero =>
  intro n s l H hn64 hn hl h
  have hn0 : n = 0 := by simpa using hn
  subst hn0;refine ae (xI _ _ _ H) ?_;refine aa (lm (by omega)) ?_;refine gs ?_;refine ae (r9 _ _ _ H) ?_;refine ae (xH _ _ _ H) ?_;refine aa (vF) ?_;refine IP h fun b0 H5 h5 => ?_;refine d8 (s := s) (l := l) (0 : Nat) h5 rfl ?_ (by omega) fun a c H6 h6 => ?_
  ·unfold cg; omega
  rw [dk (by omega)];exact ay ⟨_, rfl, h6.to⟩
 | succ k ih =>
  intro n s l H hn64 hn hl h;refine ae (xI _ _ _ H) ?_
  by_cases hc : n < 128
  ·refine aa (lm (by omega)) ?_
   refine gs ?_;refine ae (r9 _ _ _ H) ?_;refine ae (xH _ _ _ H) ?_;refine aa (vF) ?_;refine IP h fun b0 H5 h5 => ?_;refine d8 (s := s) (l := l) (n : Nat) h5 (by rw [show n % 256 = n by omega]) ?_ (by omega) fun a c H6 h6 => ?_
   ·unfold cg; omega
   rw [dk hc];exact ay ⟨_, rfl, h6.to⟩
  ·refine aa (ln (by omega)) ?_
   refine gs ?_;refine ae (IJ _ _ _ H) ?_;refine aa (apO 128 (by omega)) ?_;refine aa (vy (b := 128) (by omega)) ?_;refine aa (vF) ?_;refine IP h fun b0 H5 h5 => ?_;refine d8 (s := s) (l := l) (n % 128 + 128 : Nat) h5 (by rw [show (n % 128 + 128) % 256 = n % 128 + 128 by omega]) ?_ (by omega) fun a c H6 h6 => ?_
   ·unfold cg; omega
   refine aa (apN 128 (by omega) hn64) ?_;rw [Jc hc];refine ih (n / 128) _ _ H6 (by omega) ?_ ?_ h6.to
   ·rw [Nat.div_lt_iff_lt_mul (by omega)]
    rw [Nat.mul_add, Nat.pow_add] at hn;exact hn
   ·simp only [cT, List.length_cons, List.length_nil]; omega
theorem cv (s : Value) (l : List Nat) (n : Nat) (hn : n < 18446744073709551616) (hl : l.length ≤ 100000) : Sp cQ [s, vu n] (ts 1 aG s l) (fun v : Value => v) (fun v => ts 1 aG v (l ++ aJ n)) := by
 refine gb (R5 _ _) fun R H h => ?_;refine ae (II _ _ _ H) ?_;exact Xz 10 n s l H hn (Nat.lt_of_lt_of_le hn (by decide)) (by omega) h
def Hw (x : Cl) (i : Nat) : Int := match i with
 | 0 => x.op
 | 1 => x.flow
 | 2 => x.a
 | _ => x.b
theorem an3 (x : Cl) (i : Nat) (h : i < 4) : eU 4 none 1 (.agg (Cl.cells x).toArray) (vi i) = some (vi (Hw x i)) := by
 match i, h with
 | 0, _ => rfl
 | 1, _ => rfl
 | 2, _ => rfl
 | 3, _ => rfl
theorem DH (x : Cl) : Sp ga [.agg (Cl.cells x).toArray] emp (fun _ : Unit => .agg (Cl.cells x).toArray) (fun _ => emp) := by
 refine gb (Bn _) fun R H h => ?_;refine bH h fun b H1 h1 => ?_;refine ce h1 fun b2 H2 h2 => ?_;refine aL h2 aj rfl ?_;refine aL h2 aj rfl ?_;refine aL h2 aj rfl ?_;refine aL h2 aj rfl ?_;refine amI (cs := Cl.cells x) rfl ?_;refine cS h2 rfl rfl fun H3 h3 => ?_;refine bx h3 ?_;exact ay ⟨(), rfl, h3.to⟩
theorem kU {x : Cl} : dC x = true ↔ ∀ i, i < 4 → yJ (Hw x i) = true := by
 unfold dC;simp only [Bool.and_eq_true]
 constructor
 ·rintro ⟨⟨⟨h0, h1⟩, h2⟩, h3⟩ i hi
  match i, hi with
  | 0, _ => exact h0
  | 1, _ => exact h1
  | 2, _ => exact h2
  | 3, _ => exact h3
 ·intro h
  exact ⟨⟨⟨h 0 (by omega), h 1 (by omega)⟩, h 2 (by omega)⟩, h 3 (by omega)⟩
section
variable {P R : SP} {v pv : Value} {ll : List (List Cl)} {pk : List Int}
theorem Ik {x : OV} {Q Q' : Value → AH → Prop} (f : ∀ v H, Q v H → Q' v H) (k : wp x Q) : wp x Q' := let ⟨v, H, e, q⟩ := k; ⟨v, H, e, f _ _ q⟩
theorem Xc [r : Rd P pv 1 bz pk] (hk : pk.length ≤ 4000) (x4 : Value) : ∀ (d i : Nat) (H : AH), i + d = pk.length → (∀ j, (h : j < pk.length) → j < i → rk pk[j] = true) → ac (P * R) H →
 wp (kA x4 pv (vi pk.length) (vi i) H) fun v' H' => v' = vb (pk.all rk) ∧ ac (P * R) H' := by
 intro d
 induction d with
 | zero =>
  intro i H hi ho h;refine ae (qi _ _ _ _ H) ?_;refine aa (aU (by omega)) ?_;refine gs ?_;refine ae (yS _ H) ?_;refine ae (C0 _ H) ?_
  have : pk.all rk = true := List.all_eq_true.2 fun x hx => by
   obtain ⟨j, hj, rfl⟩ := List.getElem_of_mem hx;exact ho j hj (by omega)
  rw [this];exact ay ⟨rfl, h⟩
 | succ d ih =>
  intro i H hi ho h
  have hil : i < pk.length := by omega
  refine ae (qi _ _ _ _ H) ?_;refine aa (aW (by omega)) ?_;refine gs ?_;refine ae (C2 _ _ _ _ H) ?_;refine bU (s := pv) (l := pk) h hil rfl ?_
  have bad : rk pk[i] = false → wp (some (vb false, H)) fun v' H' => v' = vb (pk.all rk) ∧ ac (P * R) H' := by
   intro hb
   have : pk.all rk = false := by
    rw [List.all_eq_false];exact ⟨pk[i], tY hil, by rw [hb]; simp⟩
   rw [this];exact ay ⟨rfl, h⟩
  by_cases c1 : pk[i] < 0
  ·refine aa (aW c1) ?_
   refine gs ?_;exact bad (by unfold rk; exact gm (by omega))
  ·refine aa (aU c1) ?_
   refine gs ?_
   by_cases c2 : (63 : Int) < pk[i]
   ·refine aa (iQ c2) ?_
    refine gs ?_;exact bad (by unfold rk; exact gm (by omega))
   ·refine aa (iP c2) ?_
    refine gs ?_;refine ae (C3 _ _ _ _ H) ?_;refine aa (aq (by omega) (by omega)) ?_;refine ih (i + 1) H (by omega) (fun j hj hji => ?_) h
    rcases Nat.lt_or_ge j i with h1 | h1
    ·exact ho j hj h1
    ·have : j = i := by omega
     subst this;unfold rk; exact dZ (by omega)
theorem af7 (x : Cl) (x1 x4 x28 x29 x30 x34 x35 x36 : Value) {X : SP} {Q : Value → AH → Prop} (hbad : ∀ H, dC x = false → ac X H → wp (some (vb false, H)) Q)
 (hok : ∀ H, dC x = true → ac X H → wp (mN x1 x4 x28 x29 x30 x34 x35 x36 H) Q) : ∀ (d i : Nat) (H : AH), i + d = 4 → (∀ j, j < i → yJ (Hw x j) = true) → ac X H →
 wp (jm x1 x4 x28 x29 x30 x34 x35 x36 (.agg (Cl.cells x).toArray) (vi i) H) Q := by
 intro d
 induction d with
 | zero =>
  intro i H hi ho h;refine ae (ot _ _ _ _ _ _ _ _ _ _ H) ?_;refine aa (aU (by omega)) ?_;refine gs ?_;refine ae (wN _ _ _ _ _ _ _ _ H) ?_;exact hok H (kU.2 fun j hj => ho j (by omega)) h
 | succ d ih =>
  intro i H hi ho h
  have hi4 : i < 4 := by omega
  refine ae (ot _ _ _ _ _ _ _ _ _ _ H) ?_;refine aa (aW (by omega)) ?_;refine gs ?_;refine ae (Bl _ _ _ _ _ _ _ _ _ _ H) ?_;refine aa (an3 x i hi4) ?_
  have bad : yJ (Hw x i) = false → wp (some (vb false, H)) Q := by
   intro hb;refine hbad H ?_ h
   cases e : dC x with
   | false => rfl
   | true => rw [kU.1 e i hi4] at hb; cases hb
  by_cases c1 : Hw x i < 0
  ·refine aa (aW c1) ?_
   refine gs ?_;exact bad (by unfold yJ; exact gm (by omega))
  ·refine aa (aU c1) ?_
   refine gs ?_
   by_cases c2 : (2147483647 : Int) < Hw x i
   ·refine aa (iQ c2) ?_
    refine gs ?_;exact bad (by unfold yJ; exact gm (by omega))
   ·refine aa (iP c2) ?_
    refine gs ?_;refine ae (Bm _ _ _ _ _ _ _ _ _ _ H) ?_;refine aa (aq (by omega) (by omega)) ?_;refine ih (i + 1) H (by omega) (fun j hji => ?_) h
    rcases Nat.lt_or_ge j i with h1 | h1
    ·exact ho j h1
    ·have : j = i := by omega
     subst this;unfold yJ; exact dZ (by omega)
theorem af8 {X : SP} {lv : Value} {l : List Cl} [r : Rd X lv 4 Cl.cells l] (hl : l.length ≤ 100) (x1 x4 x28 x29 x30 : Value) {Q : Value → AH → Prop} (hbad : ∀ H, l.all dC = false → ac X H → wp (some (vb false, H)) Q)
 (hok : ∀ H, l.all dC = true → ac X H → wp (mM x1 x4 x28 x29 x30 H) Q) : ∀ (d i : Nat) (H : AH), i + d = l.length → (∀ j, (h : j < l.length) → j < i → dC l[j] = true) → ac X H →
 wp (jl x1 x4 x28 x29 x30 lv (vi l.length) (vi i) H) Q := by
 intro d
 induction d with
 | zero =>
  intro i H hi ho h;refine ae (oq _ _ _ _ _ _ _ _ H) ?_;refine aa (aU (by omega)) ?_;refine gs ?_;refine ae (wM _ _ _ _ _ H) ?_;refine hok H (List.all_eq_true.2 fun x hx => ?_) h;obtain ⟨j, hj, rfl⟩ := List.getElem_of_mem hx;exact ho j hj (by omega)
 | succ d ih =>
  intro i H hi ho h
  have hil : i < l.length := by omega
  refine ae (oq _ _ _ _ _ _ _ _ H) ?_;refine aa (aW (by omega)) ?_;refine gs ?_;refine ae (Bi _ _ _ _ _ _ _ _ H) ?_;refine Df (s := lv) (l := l) h hil ?_;refine ce h fun b1 H1 h1 => ?_;refine cS h1 rfl rfl fun H2 h2 => ?_;refine bx h2 ?_;refine ah h2 (DH l[i]) fun _ H3 h3 => ?_;refine ae (Bk _ _ _ _ _ _ _ _ _ _ H3) ?_;refine af7 l[i] _ _ _ _ _ _ _ _ (X := X) (fun H hb h => ?_) (fun H hb h => ?_) 4 0 H3 rfl (fun j hj => absurd hj (by omega)) h3.to
  ·refine hbad H ?_ h
   rw [List.all_eq_false];exact ⟨l[i], tY hil, by rw [hb]; simp⟩
  ·refine ae (Bj _ _ _ _ _ _ _ _ H) ?_
   refine aa (aq (by omega) (by omega)) ?_;refine ih (i + 1) H (by omega) (fun j hj hji => ?_) h
   rcases Nat.lt_or_ge j i with h1 | h1
   ·exact ho j hj h1
   ·have : j = i := by omega
    subst this;exact hb
theorem my {c : Cfg} (h : j0 c ll = true) : ll.length ≤ 6 ∧ ck ll ≤ 60 ∧ dn c = true := by
 unfold j0 at h;simp only [Bool.and_eq_true, decide_eq_true_eq] at h;have := aT.1 h.1;exact ⟨by omega, h.2.2, h.1⟩
theorem HM [L : Ls P v ll] [r : Rd P pv 1 bz pk] (c : Cfg) (hn : (ll.length : Int) < 9223372036854775808) (hb : ll.length ≤ 6 → ∀ l ∈ ll, l.length ≤ 140737488355328) :
 Sp rh [.agg (aK c v).toArray, pv] P (fun _ : Unit => vb (m0 c ll pk)) (fun _ => P) := by
 refine qm fun R H h => ?_;obtain ⟨us, hvl, r1, r2⟩ := L.out;refine eD (fun r => IM _ _ H) ?_;refine bH h fun b H1 h1 => ?_;refine bx h1 ?_;refine ah h1 (XW (P := P) c hn hb) fun w H2 h2 => ?_;refine aa (v := w) rfl ?_;refine aa (v := vi (if j0 c ll then 0 else 1)) rfl ?_
 have no : m0 c ll pk = false → wp (some (vb false, H2)) fun v' H' => ∃ _ : Unit, v' = vb (m0 c ll pk) ∧ ac (P * R) H' := by
  intro e;rw [e];exact ay ⟨(), rfl, h2.to⟩
 cases hm : j0 c ll with
 | false =>
  rw [if_neg (by simp)];refine aa (DG (by omega)) ?_;refine gs ?_;exact no (by unfold m0; rw [hm]; rfl)
 | true =>
  rw [if_pos rfl];obtain ⟨m1, m2, m3⟩ := my hm;refine aa (fL rfl) ?_;refine gs ?_;refine gg (s := pv) (l := pk) h2 ?_
  by_cases hk : (4000 : Int) < pk.length
  ·refine aa (Cb (iQ hk)) ?_
   refine gs ?_;exact no (by unfold m0; rw [gm (by omega)]; simp)
  refine aa (Cb (iP hk)) ?_;refine gs ?_;refine ae (CY _ _ _ H2) ?_;refine aL h2 aj rfl ?_;refine aS (s := v) (l := us) h2 ?_;refine ae (Be _ _ _ _ _ H2) ?_
  have hus : us.length ≤ 6 := by omega
  have outer : ∀ (d i : Nat) (H : AH), i + d = us.length → (∀ j, (h : j < ll.length) → j < i → (ll[j]).all dC = true) → ac (P * R) H →
   wp (jk pv (vb false) v (vi us.length) (vi i) H) fun v' H' => ∃ _ : Unit, v' = vb (m0 c ll pk) ∧ ac (P * R) H' := by
   intro d
   induction d with
   | zero =>
    intro i H hi ho h;refine ae (oo _ _ _ _ _ H) ?_;refine aa (aU (by omega)) ?_;refine gs ?_;refine ae (wL _ _ H) ?_;refine ae (CZ _ _ H) ?_;refine aS (s := pv) (l := pk) h ?_;refine ae (C1 _ _ _ _ H) ?_;refine Ik (fun v' H' hq => ?_) (Xc (pk := pk) (by omega) _ pk.length 0 H (by omega) (fun j _ hj => absurd hj (by omega)) h);obtain ⟨rfl, hq⟩ := hq;refine ⟨(), ?_, hq⟩
    have hall : ll.all (·.all dC) = true := List.all_eq_true.2 fun l hl => by
     obtain ⟨j, hj, rfl⟩ := List.getElem_of_mem hl;exact ho j hj (by omega)
    unfold m0;rw [hm, hall, dZ (show pk.length ≤ 4000 by omega)]
    rfl
   | succ d ih =>
    intro i H hi ho h
    have hiu : i < us.length := by omega
    have hil : i < ll.length := by omega
    refine ae (oo _ _ _ _ _ H) ?_;refine aa (aW (by omega)) ?_;refine gs ?_;refine ae (Bf _ _ _ _ _ H) ?_;refine bU (s := v) (l := us) h hiu rfl ?_
    haveI := r2 i hiu hil
    refine aS (s := (us[i]).v) (l := ll[i]) h ?_;refine ae (Bh _ _ _ _ _ _ _ _ H) ?_
    have hl60 : ll[i].length ≤ 100 := by have := gM hil; omega
    refine af8 (X := P * R) (l := ll[i]) hl60 _ _ _ _ _ (fun H hb h => ?_) (fun H hb h => ?_) ll[i].length 0 H (by omega) (fun j _ hj => absurd hj (by omega)) h
    ·have hall : ll.all (·.all dC) = false := by
      rw [List.all_eq_false];exact ⟨ll[i], tY hil, by rw [hb]; simp⟩
     have e : m0 c ll pk = false := by unfold m0; rw [hall]; simp
     rw [e];exact ay ⟨(), rfl, h⟩
    ·refine ae (Bg _ _ _ _ _ H) ?_
     refine aa (aq (by omega) (by omega)) ?_;refine ih (i + 1) H (by omega) (fun j hj hji => ?_) h
     rcases Nat.lt_or_ge j i with h1 | h1
     ·exact ho j hj h1
     ·have : j = i := by omega
      subst this;exact hb
  exact outer us.length 0 H2 (by omega) (fun j _ hj => absurd hj (by omega)) h2.to
end
abbrev oZ (n : Int) : List Nat := aJ n.toNat
abbrev Eg (x : Cl) : List Int := [x.op, x.flow, x.a, x.b]
theorem JD (x : Cl) {i : Nat} (h : i < 4) : (Eg x).drop i = Hw x i :: (Eg x).drop (i + 1) := by
 match i, h with
 | 0, _ => rfl
 | 1, _ => rfl
 | 2, _ => rfl
 | 3, _ => rfl
abbrev yh (x : Cl) : List Nat := (Eg x).flatMap oZ
abbrev BY (l : List Cl) : List Nat := aJ l.length ++ l.flatMap yh
theorem aiO (x : Cl) : yh x = Jb (Yr x) := by
 simp only [yh, Eg, oZ, Jb, Yr, List.flatMap_cons, List.flatMap_nil, List.append_nil]
def bP (c : Cfg) (ll : List (List Cl)) (pk : List Int) : List Nat :=
 yh ⟨c.sh, c.sl, c.wk, c.wd⟩ ++ (aJ c.un ++ (aJ ll.length ++ (ll.flatMap BY ++ (aJ pk.length ++ pk.flatMap oZ))))
theorem fU (c : Cfg) (ll : List (List Cl)) (pk : List Int) : bP c ll pk = dF (scN c ll pk) := by
 unfold bP dF scN
 have e1 : (ll.map fun l => l.map Yr).flatMap s0 = ll.flatMap BY := by
  rw [List.flatMap_map]
  congr 1
  funext l
  simp only [s0, BY, dN, List.flatMap_map]
  congr 1
  congr 1
  funext x
  exact (aiO x).symm
 have e2 : (pk.map Int.toNat).flatMap aJ = pk.flatMap oZ := by rw [List.flatMap_map]
 simp only [e1, e2, dN];simp only [yh, Eg, oZ, rH, cfN, List.flatMap_cons, List.flatMap_nil, List.append_nil, List.append_assoc]
theorem Ad {α : Type} {f : α → List Nat} {k : Nat} : ∀ {l : List α}, (∀ x ∈ l, (f x).length ≤ k) → (l.flatMap f).length ≤ l.length * k := by
 intro l
 induction l with
 | nil => intro _; simp
 | cons a l ih =>
  intro h;rw [List.flatMap_cons, cT, List.length_cons, Nat.add_mul];have := ih fun x hx => h x (by simp [hx]);have := h a (by simp);omega
theorem Gi {n : Int} (h : yJ n = true) : (oZ n).length ≤ 5 := by
 unfold yJ at h;have := of_decide_eq_true h;exact jV (by omega)
theorem Gg {x : Cl} (h : dC x = true) : (yh x).length ≤ 20 := by
 have := Ad (f := oZ) (k := 5) (l := Eg x) fun n hn => by
  obtain ⟨j, hj, rfl⟩ := List.getElem_of_mem hn;have hj4 : j < 4 := hj;have := kU.1 h j hj4;refine Gi ?_
  match j, hj4, this with
  | 0, _, this => exact this
  | 1, _, this => exact this
  | 2, _, this => exact this
  | 3, _, this => exact this
 exact this
section
variable {P R X : SP} {v pv : Value} {ll : List (List Cl)} {pk : List Int} {c : Cfg}
theorem wq : m0 c ll pk = true ↔ j0 c ll = true ∧ pk.length ≤ 4000 ∧ (∀ l ∈ ll, ∀ x ∈ l, dC x = true) ∧ ∀ n ∈ pk, rk n = true := by
 unfold m0;simp only [Bool.and_eq_true, decide_eq_true_eq, List.all_eq_true];exact ⟨fun ⟨⟨a, b⟩, d, e⟩ => ⟨a, b, d, e⟩, fun ⟨a, b, d, e⟩ => ⟨⟨a, b⟩, d, e⟩⟩
theorem OA : ∀ {ll : List (List Cl)}, (∀ l ∈ ll, ∀ x ∈ l, dC x = true) → ck ll ≤ 60 → (ll.flatMap BY).length ≤ 10 * ll.length + 20 * ck ll := by
 intro ll
 induction ll with
 | nil => intro _ _; simp
 | cons l ll ih =>
  intro h hs
  have e : ck (l :: ll) = l.length + ck ll := by simp [ck]
  rw [e] at hs ⊢;rw [List.flatMap_cons, cT, List.length_cons];have h1 := ih (fun q hq => h q (by simp [hq])) (by omega);have h2 := Ad (f := yh) (k := 20) (l := l) fun x hx => Gg (h l (by simp) x hx);have h3 : (aJ l.length).length ≤ 10 := cj (by omega)
  have : (BY l).length = (aJ l.length).length + (l.flatMap yh).length := by simp [BY]
  omega
theorem qx (h : m0 c ll pk = true) : (bP c ll pk).length ≤ 90000 := by
 obtain ⟨h1, h2, h3, h4⟩ := wq.1 h;obtain ⟨m1, m2, m3⟩ := my h1;have hc := aT.1 m3
 have e1 : (yh ⟨c.sh, c.sl, c.wk, c.wd⟩).length ≤ 20 := Gg (kU.2 fun i hi => by
  unfold yJ
  match i, hi with
  | 0, _ => exact dZ (show 0 ≤ c.sh ∧ c.sh ≤ 2147483647 by omega)
  | 1, _ => exact dZ (show 0 ≤ c.sl ∧ c.sl ≤ 2147483647 by omega)
  | 2, _ => exact dZ (show 0 ≤ c.wk ∧ c.wk ≤ 2147483647 by omega)
  | 3, _ => exact dZ (show 0 ≤ c.wd ∧ c.wd ≤ 2147483647 by omega))
 have e2 : (aJ c.un).length ≤ 10 := cj (by omega);have e3 : (aJ ll.length).length ≤ 10 := cj (by omega);have e4 := OA h3 m2;have e5 : (aJ pk.length).length ≤ 10 := cj (by omega)
 have e6 := Ad (f := oZ) (k := 5) (l := pk) fun n hn => Gi (by
  have := h4 n hn;unfold rk at this;unfold yJ;have := of_decide_eq_true this
  exact dZ (by omega))
 unfold bP;simp only [cT];omega
theorem VS [r : Rd X pv 1 bz pk] {T : List Nat} (hT : T.length ≤ 90000) (hk : pk.length ≤ 4000) (ho : ∀ n ∈ pk, rk n = true) (x4 x5 : Value) : ∀ (d i : Nat) (s : Value) (l : List Nat) (H : AH), i + d = pk.length → l ++ (pk.drop i).flatMap oZ = T → ac (ts 1 aG s l * X) H →
 wp (gc x4 x5 s pv (vi pk.length) (vi i) H) fun v' H' => ∃ s' : Value, v' = .tuple #[s', vi 0] ∧ ac (ts 1 aG s' T * X) H' := by
 intro d
 induction d with
 | zero =>
  intro i s l H hi hl h;refine ae (lM _ _ _ _ _ _ H) ?_;refine aa (aU (by omega)) ?_;refine gs ?_;refine ae (sK _ _ _ H) ?_;refine ae (wI _ _ _ H) ?_;rw [List.drop_of_length_le (by omega), List.flatMap_nil, List.append_nil] at hl;subst hl;exact ay ⟨s, rfl, h⟩
 | succ d ih =>
  intro i s l H hi hl h
  have hil : i < pk.length := by omega
  refine ae (lM _ _ _ _ _ _ H) ?_;refine aa (aW (by omega)) ?_;refine gs ?_;refine ae (wK _ _ _ _ _ _ H) ?_;refine bU (s := pv) (l := pk) h hil rfl ?_;have hok := ho pk[i] (tY hil);unfold rk at hok;have hok := of_decide_eq_true hok;refine aa (cw (by omega) (by omega)) ?_
  have hll : l.length ≤ 90000 := by have := congrArg List.length hl; simp only [cT] at this; omega
  refine ah h (dI s l pk[i].toNat (by omega) (by omega)) fun s' H1 h1 => ?_;refine ae (uM _ _ _ _ _ _ H1) ?_;refine aa (aq (by omega) (by omega)) ?_;refine ih (i + 1) s' (l ++ aJ pk[i].toNat) H1 (by omega) ?_ h1.to;rw [← hl, List.drop_eq_getElem_cons hil, List.flatMap_cons, List.append_assoc]
theorem YO {T rest : List Nat} (hT : T.length ≤ 90000) (x : Cl) (hx : dC x = true) (x1 x4 x5 x51 x52 x53 x62 x63 x64 : Value) {Q : Value → AH → Prop}
 (next : ∀ (s : Value) (l : List Nat) (H : AH), l ++ rest = T → ac (ts 1 aG s l * X) H → wp (jj x1 x4 x5 s x51 x52 x53 x62 x63 x64 H) Q) : ∀ (d i : Nat) (s : Value) (l : List Nat) (H : AH), i + d = 4 → l ++ (((Eg x).drop i).flatMap oZ ++ rest) = T → ac (ts 1 aG s l * X) H →
 wp (fD x1 x4 x5 s x51 x52 x53 x62 x63 x64 (.agg (Cl.cells x).toArray) (vi i) H) Q := by
 intro d
 induction d with
 | zero =>
  intro i s l H hi hl h;refine ae (kZ _ _ _ _ _ _ _ _ _ _ _ _ H) ?_;refine aa (aU (by omega)) ?_;refine gs ?_;refine ae (rx _ _ _ _ _ _ _ _ _ _ H) ?_;rw [List.drop_of_length_le (show (Eg x).length ≤ i by show 4 ≤ i; omega), List.flatMap_nil, List.nil_append] at hl;exact next s l H hl h
 | succ d ih =>
  intro i s l H hi hl h
  have hi4 : i < 4 := by omega
  refine ae (kZ _ _ _ _ _ _ _ _ _ _ _ _ H) ?_;refine aa (aW (by omega)) ?_;refine gs ?_;refine ae (uU _ _ _ _ _ _ _ _ _ _ _ _ H) ?_;refine aa (an3 x i hi4) ?_;have hok := kU.1 hx i hi4;unfold yJ at hok;have hok := of_decide_eq_true hok;refine aa (cw (by omega) (by omega)) ?_
  have hll : l.length ≤ 90000 := by have := congrArg List.length hl; simp only [cT] at this; omega
  refine ah h (dI s l (Hw x i).toNat (by omega) (by omega)) fun s' H1 h1 => ?_;refine ae (uV _ _ _ _ _ _ _ _ _ _ _ _ H1) ?_;refine aa (aq (by omega) (by omega)) ?_;refine ih (i + 1) s' (l ++ aJ (Hw x i).toNat) H1 (by omega) ?_ h1.to;rw [← hl, JD x hi4, List.flatMap_cons, List.append_assoc, List.append_assoc]
theorem YP {lv : Value} {cl : List Cl} [r : Rd X lv 4 Cl.cells cl] {T rest : List Nat} (hT : T.length ≤ 90000) (hc : cl.length ≤ 100) (hx : ∀ x ∈ cl, dC x = true) (x1 x4 x5 x51 x52 x53 : Value) {Q : Value → AH → Prop}
 (next : ∀ (s : Value) (l : List Nat) (H : AH), l ++ rest = T → ac (ts 1 aG s l * X) H → wp (ji x1 x4 x5 s x51 x52 x53 H) Q) : ∀ (d i : Nat) (s : Value) (l : List Nat) (H : AH), i + d = cl.length → l ++ ((cl.drop i).flatMap yh ++ rest) = T → ac (ts 1 aG s l * X) H →
 wp (fC x1 x4 x5 s x51 x52 x53 lv (vi cl.length) (vi i) H) Q := by
 intro d
 induction d with
 | zero =>
  intro i s l H hi hl h;refine ae (kY _ _ _ _ _ _ _ _ _ _ H) ?_;refine aa (aU (by omega)) ?_;refine gs ?_;refine ae (rt _ _ _ _ _ _ _ H) ?_;rw [List.drop_of_length_le (by omega), List.flatMap_nil, List.nil_append] at hl;exact next s l H hl h
 | succ d ih =>
  intro i s l H hi hl h
  have hil : i < cl.length := by omega
  refine ae (kY _ _ _ _ _ _ _ _ _ _ H) ?_;refine aa (aW (by omega)) ?_;refine gs ?_;refine ae (uR _ _ _ _ _ _ _ _ _ _ H) ?_;refine Df (s := lv) (l := cl) h hil ?_;refine ce h fun b1 H1 h1 => ?_;refine cS h1 rfl rfl fun H2 h2 => ?_;refine bx h2 ?_;refine ah h2 (DH cl[i]) fun _ H3 h3 => ?_;refine ae (uT _ _ _ _ _ _ _ _ _ _ _ _ H3) ?_;refine YO (X := X) (rest := (cl.drop (i + 1)).flatMap yh ++ rest) hT cl[i] (hx _ (tY hil)) _ _ _ _ _ _ _ _ _ (fun s l H hl h => ?_) 4 0 s l H3 rfl ?_ h3.to
  ·refine ae (uS _ _ _ _ _ _ _ _ _ _ H) ?_
   refine aa (aq (by omega) (by omega)) ?_;exact ih (i + 1) s l H (by omega) hl h
  ·rw [← hl, List.drop_eq_getElem_cons hil, List.flatMap_cons, List.append_assoc]
   rfl
theorem VR [L : Ls X v ll] [r : Rd X pv 1 bz pk] {us : List Sv} (hvl : us.length = ll.length) (r1 : Rd X v 1 iK us) (r2 : ∀ i (h : i < us.length) (h' : i < ll.length), Rd X (us[i]).v 4 Cl.cells ll[i])
 {T : List Nat} (hT : T.length ≤ 90000) (h6 : ll.length ≤ 6) (h60 : ck ll ≤ 60) (hk : pk.length ≤ 4000) (ho : ∀ n ∈ pk, rk n = true) (hx : ∀ l ∈ ll, ∀ x ∈ l, dC x = true) (x4 x5 : Value) : ∀ (d i : Nat) (s : Value) (l : List Nat) (H : AH), i + d = us.length →
 l ++ ((ll.drop i).flatMap BY ++ (aJ pk.length ++ pk.flatMap oZ)) = T → ac (ts 1 aG s l * X) H →
 wp (fB pv x4 x5 s v (vi us.length) (vi i) H) fun v' H' => ∃ s' : Value, v' = .tuple #[s', vi 0] ∧ ac (ts 1 aG s' T * X) H' := by
 intro d
 induction d with
 | zero =>
  intro i s l H hi hl h;refine ae (kX _ _ _ _ _ _ _ H) ?_;refine aa (aU (by omega)) ?_;refine gs ?_;refine ae (rr _ _ _ _ H) ?_;rw [List.drop_of_length_le (by omega), List.flatMap_nil, List.nil_append] at hl;refine ae (wG _ _ _ _ H) ?_;refine aS (s := pv) (l := pk) h ?_;refine aa (cw (by omega) (by omega)) ?_
  have hll : l.length ≤ 90000 := by have := congrArg List.length hl; simp only [cT] at this; omega
  refine ah h (dI s l (pk.length : Int).toNat (by omega) (by omega)) fun s' H1 h1 => ?_;refine ae (wH _ _ _ _ H1) ?_;refine aS (s := pv) (l := pk) h1 ?_;refine ae (wJ _ _ _ _ _ _ H1) ?_;refine VS (X := X) hT hk ho _ _ pk.length 0 s' (l ++ aJ (pk.length : Int).toNat) H1 (by omega) ?_ h1.to;rw [← hl, List.drop_zero, List.append_assoc]
  rfl
 | succ d ih =>
  intro i s l H hi hl h
  have hiu : i < us.length := by omega
  have hil : i < ll.length := by omega
  refine ae (kX _ _ _ _ _ _ _ H) ?_;refine aa (aW (by omega)) ?_;refine gs ?_;refine ae (uO _ _ _ _ _ _ _ H) ?_;refine bU (s := v) (l := us) h hiu rfl ?_
  haveI := r2 i hiu hil
  refine aS (s := (us[i]).v) (l := ll[i]) h ?_
  have hl60 : ll[i].length ≤ 60 := by have := gM hil; omega
  refine aa (cw (by omega) (by omega)) ?_
  have hll : l.length ≤ 90000 := by have := congrArg List.length hl; simp only [cT] at this; omega
  refine ah h (dI s l (ll[i].length : Int).toNat (by omega) (by omega)) fun s' H1 h1 => ?_;refine aS (s := (us[i]).v) (l := ll[i]) h1 ?_;refine ae (uQ _ _ _ _ _ _ _ _ _ _ H1) ?_;refine YP (X := X) (cl := ll[i]) (rest := (ll.drop (i + 1)).flatMap BY ++ (aJ pk.length ++ pk.flatMap oZ)) hT (by omega) (hx _ (tY hil)) _ _ _ _ _ _ (fun s l H hl h => ?_) ll[i].length 0 s' (l ++ aJ (ll[i].length : Int).toNat) H1 (by omega) ?_ h1.to
  ·refine ae (uP _ _ _ _ _ _ _ H) ?_
   refine aa (aq (by omega) (by omega)) ?_;exact ih (i + 1) s l H (by omega) hl h
  ·rw [← hl, List.drop_zero, List.drop_eq_getElem_cons hil, List.flatMap_cons]
   simp only [BY, List.append_assoc]
   rfl
end
end Go.Proofs.YthagelbepgcolaaGreatDoor.Gst
