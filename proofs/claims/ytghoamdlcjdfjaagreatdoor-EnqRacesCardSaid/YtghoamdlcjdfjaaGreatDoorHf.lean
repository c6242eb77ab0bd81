/- Several texts in one. -/
import Derived.Test.YtghoamdlcjdfjaaGreatDoorHe
namespace Go.Proofs.YtghoamdlcjdfjaaGreatDoor.Gst
open Go Go.RowKit
set_option linter.unusedSimpArgs false
set_option linter.unusedVariables false
set_option maxHeartbeats 4000000
set_option maxRecDepth 100000
set_option synthInstance.maxSize 2000
set_option synthInstance.maxHeartbeats 400000
set_option linter.unusedSectionVars false
def tEv (T : Tr Value) : Operand → Value
 | .tmp t => match T.get t with
  | some v => v
  | none => undef
 | .const v => v
 | .global g => .pointer (some ⟨g, 0, none⟩)
 | .func f => .func (.func f) #[] #[]
def abL (m : Nat) (T : Tr Value) (dst : Option Tmp) (v : Value) : Option (Tr Value) :=
 match dst with
 | some j => match Nat.blt j m with
  | true => Tr.set v 24 T j
  | false => none
 | none => some T
def MM (ops : Array Oper) (T : Tr Value) (j : Nat) : Option Bool :=
 match (ops[j]?).bind (·.dst) with
 | some t => match T.get t with
  | some (.bool b) => some b
  | _ => none
 | none => none
def P8 (P : Program) (G : List Nat) (call : TF) (ops : Array Oper) (m : Nat) (o : Oper) (T : Tr Value) (E : EH) : Option (Tr Value × EH) :=
 match o.op.operands.toList.all (JK G) with
 | true => match Region.wanted o (MM ops T) with
  | true => (uX P call (tEv T) o E).bind fun r => (abL m T o.dst r.1).map fun T' => (T', r.2)
  | false => (abL m T o.dst undef).map fun T' => (T', E)
 | false => none
def ML (P : Program) (G : List Nat) (call : TF) (ops : Array Oper) (m : Nat) : List Oper → Tr Value → EH → List (Tr Value × EH) → Option (List (Tr Value × EH) × Tr Value × EH)
 | [], T, E, hist => some (hist ++ [(T, E)], T, E)
 | o :: rest, T, E, hist => (P8 P G call ops m o T E).bind fun r => ML P G call ops m rest r.1 r.2 (hist ++ [(T, E)])
def acT (P : Program) (G : List Nat) (hist : List (Tr Value × EH)) (ops : Array Oper) (p : Nat × Nat) : Bool :=
 match ops[p.1]?, hist[p.1]?, hist[if p.2 < p.1 then p.2 else p.2 + 1]? with
 | some o, some s, some s' => o.op.operands.toList.all (JK G) && eqO (tRd P (tEv s.1) o.op s'.2) (tRd P (tEv s.1) o.op s.2)
 | _, _, _ => false
def zp (P : Program) (G : List Nat) (call : TF) (ops : Array Oper) (m : Nat) (draw : Bool) (T : Tr Value) (E : EH) : Option (Tr Value × EH) :=
 match draw with
 | true => match rF ops.toList with
  | true => (ML P G call ops m ops.toList T E []).bind fun r => match (cQ ops.toList).all (acT P G r.1 ops) with
   | true => some r.2
   | false => none
  | false => none
 | false => (ML P G call ops m ops.toList T E []).map (·.2)
abbrev TR := AE × Tr Value × EH
def P7 (f : Tr Value → EH → Option TR) : Nat → Tr Value → EH → Option TR
 | 0, _, _ => none
 | n + 1, T, E => (f T E).bind fun r => match r.1 with
  | .normal => P7 f n r.2.1 r.2.2
  | _ => some r
def ig (P : Program) (G : List Nat) (call : TF) (N m : Nat) : Code → Tr Value → EH → Option TR
 | .skip, T, E => some (.normal, T, E)
 | .label _, T, E => some (.normal, T, E)
 | .region _ ops draw, T, E => (zp P G call ops m draw T E).map fun s => (.normal, s.1, s.2)
 | .seq x y, T, E => (ig P G call N m x T E).bind fun r => match r.1 with
  | .normal => ig P G call N m y r.2.1 r.2.2
  | _ => some r
 | .cond c x y, T, E => match JK G c with
  | true => match tEv T c with
   | .bool true => ig P G call N m x T E
   | .bool false => ig P G call N m y T E
   | _ => none
  | false => none
 | .block id x, T, E => (ig P G call N m x T E).map fun r => match r.1 with
  | .exit i => if i = id then (.normal, r.2.1, r.2.2) else r
  | _ => r
 | .loop x, T, E => P7 (ig P G call N m x) N T E
 | .exit id, T, E => some (.exit id, T, E)
 | .ret, T, E => some (.ret, T, E)
 | _, _, _ => none
def B2 (T : Tr Value) (t : Nat) : Value := match T.get t with
 | some v => v
 | none => undef
def uY (P : Program) (T : Tr Value) (E : EH) : ResultVar → Option Value
 | .tmp t => some (B2 T t)
 | .cell a t => (dS P t).bind fun g => match g with
  | some n => U5 n (B2 T a) E
  | none => U4 (B2 T a) E
def En (P : Program) (T : Tr Value) (E : EH) : List ResultVar → Option (List Value)
 | [] => some []
 | r :: rs => (uY P T E r).bind fun v => (En P T E rs).bind fun vs => some (v :: vs)
def YH (P : Program) (rs : List ResultVar) (r : TR) : Option (Value × EH) :=
 match r.1 with
 | .exit _ => none
 | _ => (En P r.2.1 r.2.2 rs).map fun vs => (match vs with
  | [v] => v
  | vs => .tuple vs.toArray, r.2.2)
def Jm : List Value → Nat → Tr Value → Option (Tr Value)
 | [], _, T => some T
 | v :: vs, i, T => (Tr.set v 24 T i).bind fun T' => Jm vs (i + 1) T'
def YG (P : Program) (G : List Nat) (call : TF) (N n : Nat) (rs : List ResultVar) (s : DSh) (T : Tr Value) (E : EH) : Option (Value × EH) :=
 (ig P G call N n s.c1 T E).bind fun r => match r.1 with
  | .normal => match Nat.blt s.t n with
   | true => (P8 P G call s.ops2 n s.om r.2.1 r.2.2).bind fun q => (ML P G call s.ops3 n s.ops3.toList q.1 q.2 []).bind fun z => YH P rs (.normal, z.2.1, z.2.2)
   | false => none
  | _ => none
def Em (P : Program) (G D : List Nat) (N : Nat) : Nat → TF
 | 0 => fun _ _ _ => none
 | k + 1 => fun f args E => match P.funcs[f]? with
  | some fn => if fn.name = "runtime.NumGoroutine" then none else match fn.body with
   | some c => match Nat.ble args.length fn.ntmps with
    | true => (Jm args 0 .lf).bind fun T => match jo c with
     | none => (ig P G (Em P G D N k) N fn.ntmps c T E).bind (YH P fn.results.toList)
     | some s => match D.contains s.k with
      | true => YG P G (Em P G D N k) N fn.ntmps fn.results.toList s T E
      | false => none
    | false => none
   | none => none
  | none => none
section
variable {P : Program} {G : List Nat} {g d m N : Nat} {F : List AObj}
structure ER (g d m : Nat) (T : Tr Value) (A : List Value) : Prop where
 len : A.length = m
 get : ∀ t, A[t]?.getD undef = bj g d (B2 T t)
theorem Jl {v : Value} {T T' : Tr Value} {j : Nat} (h : Tr.set v 24 T j = some T') (t : Nat) : B2 T' t = if t = j then v else B2 T t := by
 unfold B2;rw [Tr.get_set 24 h t]
 by_cases e : t = j
 ·rw [if_pos e, if_pos e]
 ·rw [if_neg e, if_neg e]
theorem ER.put {T T' : Tr Value} {A : List Value} (h : ER g d m T A) {dst : Option Tmp} {v : Value} (hp : abL m T dst v = some T') : ER g d m T' (jB A dst ((bj g d) v)) := by
 unfold abL at hp
 cases dst with
 | none => cases hp; exact h
 | some j =>
  simp only at hp
  split at hp
  ·rename_i hb
   have hj : j < m := Nat.le_of_ble_eq_true hb;refine ⟨by simp [jB, h.len], fun t => ?_⟩;rw [Jl hp];simp only [jB];rw [List.getElem?_set]
   by_cases e : t = j
   ·rw [if_pos e, if_pos e.symm, if_pos (by rw [h.len]; omega)]; rfl
   ·rw [if_neg e, if_neg (fun x => e x.symm)]; exact h.get t
  ·cases hp
theorem ER.ev {T : Tr Value} {A : List Value} (h : ER g d m T A) (hG : ∀ b ∈ G, b < g) {x : Operand} (hx : JK G x = true) : dU A x = (bj g d) (tEv T x) := by
 cases x with
 | tmp t => exact h.get t
 | const v => exact (Jf hx).symm
 | global b =>
  simp only [JK, List.contains_iff_mem] at hx;simp [dU, tEv, xt, yQ, hG b hx]
 | func f => simp [dU, tEv]
theorem ER.yield {T : Tr Value} {A : List Value} (h : ER g d m T A) (ops : Array Oper) : cL ops A = MM ops T := by
 funext j
 unfold cL MM
 cases (ops[j]?).bind (·.dst) with
 | none => rfl
 | some t =>
  simp only [be];have hg := h.get t;unfold B2 at hg
  cases hT : T.get t with
  | none =>
   rw [hT] at hg;simp only [pJ] at hg
   cases hA : A[t]? with
   | none => rfl
   | some v => rw [hA] at hg; simp only [Option.getD_some] at hg; subst hg; rfl
  | some v =>
   rw [hT] at hg;simp only at hg
   cases hA : A[t]? with
   | none => rw [hA] at hg; simp only [Option.getD_none] at hg; cases v <;> simp [undef] at hg ⊢
   | some w => rw [hA] at hg; simp only [Option.getD_some] at hg; subst hg; cases v <;> simp
structure St (g d m : Nat) (F : List AObj) (x : Tr Value × EH) (y : List Value × AH) : Prop where
 er : ER g d m x.1 y.1
 hr : HR g d F x.2 y.2
theorem Ji {c : TF} {c' : a7} (hG : ∀ b ∈ G, b < g) (hc : pU g d F c c') {ops : Array Oper} {o : Oper} {T : Tr Value} {E : EH} {A : List Value} {H : AH} {r} (hS : St g d m F (T, E) (A, H)) (h : P8 P G c ops m o T E = some r) :
 ∃ r', eR P G c' ops o A H = some r' ∧ St g d m F r r' := by
 unfold P8 at h;unfold eR
 split at h
 ·rename_i hok
  rw [if_pos hok];have hev : ∀ x, x ∈ o.op.operands.toList → dU A x = (bj g d) (tEv T x) := fun x hx => hS.er.ev hG (List.all_eq_true.1 hok x hx);rw [hS.er.yield]
  split at h
  ·rename_i hw
   rw [if_pos hw];obtain ⟨⟨v, E1⟩, h1, h⟩ := az.1 h;obtain ⟨T', h2, e⟩ := aN.1 h;cases e;obtain ⟨H', h3, h4⟩ := adT hS.hr hc hev v E1 h1;rw [h3];exact ⟨_, rfl, hS.er.put h2, h4⟩
  ·rename_i hw
   rw [if_neg (by rw [hw]; simp)];obtain ⟨T', h2, e⟩ := aN.1 h;cases e;refine ⟨_, rfl, ?_, hS.hr⟩;have := hS.er.put h2
   rwa [pJ] at this
 ·cases h
theorem Gy {c : TF} {c' : a7} (hG : ∀ b ∈ G, b < g) (hc : pU g d F c c') {ops : Array Oper} : ∀ (l : List Oper) {T : Tr Value} {E : EH} {A : List Value} {H : AH} {hist r}, St g d m F (T, E) (A, H) → ML P G c ops m l T E hist = some r →
 (∃ r', cq P G c' ops l A H = some r' ∧ St g d m F r.2 r') ∧ ∃ t, r.1 = hist ++ t ∧ t.length = l.length + 1 ∧ ∀ i, i ≤ l.length → ∃ x y, t[i]? = some x ∧ cq P G c' ops (l.take i) A H = some y ∧ St g d m F x y := by
 intro l
 induction l with
 | nil =>
  intro T E A H hist r hS h;simp only [ML] at h; cases h;refine ⟨⟨_, rfl, hS⟩, [(T, E)], rfl, rfl, ?_⟩;intro i hi
  have : i = 0 := by simpa using hi
  subst this;exact ⟨_, _, rfl, rfl, hS⟩
 | cons o l ih =>
  intro T E A H hist r hS h;simp only [ML] at h;obtain ⟨q, hq, h⟩ := az.1 h;obtain ⟨⟨A1, H1⟩, h1, hS1⟩ := Ji hG hc hS hq;obtain ⟨T1, E1⟩ := q;obtain ⟨⟨r', h2, hS2⟩, t, e, hl, ht⟩ := ih hS1 h;refine ⟨⟨r', by simp only [cq, h1, be]; exact h2, hS2⟩, (T, E) :: t, by rw [e]; simp, by simp [hl], ?_⟩;intro i hi
  cases i with
  | zero => exact ⟨_, _, rfl, rfl, hS⟩
  | succ i =>
   obtain ⟨x, y, hx, hy, hxy⟩ := ht i (by simpa using hi);exact ⟨x, y, by simpa using hx, by simp only [List.take_succ_cons, cq, h1, be]; exact hy, hxy⟩
theorem Ms {c : TF} {c' : a7} (hG : ∀ b ∈ G, b < g) (hc : pU g d F c c') {ops : Array Oper} {draw : Bool} {T : Tr Value} {E : EH} {A : List Value} {H : AH} {r} (hS : St g d m F (T, E) (A, H)) (h : zp P G c ops m draw T E = some r) :
 ∃ r', eC P G c' ops draw A H = some r' ∧ St g d m F r r' := by
 cases draw with
 | false =>
  simp only [zp, eC] at h ⊢;obtain ⟨q, hq, e⟩ := aN.1 h;subst e;exact (Gy hG hc _ hS hq).1
 | true =>
  simp only [zp, eC] at h ⊢
  split at h
  ·rename_i hreg
   obtain ⟨q, hq, h⟩ := az.1 h
   split at h
   ·rename_i hall
    cases h;obtain ⟨⟨r', h1, h2⟩, t, e, hl, ht⟩ := Gy hG hc _ hS hq;refine ⟨r', ?_, h2⟩;unfold kZ;rw [hreg];simp only
    cases hp : cQ ops.toList with
    | nil => exact h1
    | cons p ps =>
     simp only;rw [i3 ?_]
     ·exact h1
     ·rw [← hp]
      intro p hpm o ho;have hx := List.all_eq_true.1 hall p hpm;unfold acT at hx;rw [ho] at hx;simp only [List.nil_append] at e
      have st : ∀ i x, q.1[i]? = some x → St g d m F x (ip P G c' ops A H i) := by
       intro i x hs
       have hi : i < t.length := by rw [e] at hs; exact (Gi.1 hs).1
       obtain ⟨x', y, hx', hy, hxy⟩ := ht i (by omega);rw [e, hx'] at hs;cases hs;unfold ip;rw [hy];exact hxy
      split at hx
      ·rename_i o' x1 x2 ho' hs hs'
       cases ho';simp only [Bool.and_eq_true] at hx;have hev : ∀ x, x ∈ o.op.operands.toList → dU (ip P G c' ops A H p.1).1 x = (bj g d) (tEv x1.1 x) := fun x hxm => (st _ _ hs).er.ev hG (List.all_eq_true.1 hx.1 x hxm);rw [acP (st _ _ hs').hr hev, acP (st _ _ hs).hr hev, QQ hx.2]
      ·cases hx
   ·cases h
  ·cases h
structure Ar (g d m : Nat) (F : List AObj) (x : TR) (y : AR) : Prop where
 e : x.1 = y.1
 st : St g d m F x.2 y.2
theorem HQ {c : TF} {c' : a7} (hG : ∀ b ∈ G, b < g) (hc : pU g d F c c') : ∀ (k : Code) {T : Tr Value} {E : EH} {A : List Value} {H : AH} {r : TR}, St g d m F (T, E) (A, H) → ig P G c N m k T E = some r →
 ∃ r', aI P G c' k A H = some r' ∧ Ar g d m F r r' := by
 intro k
 induction k with
 | region id ops draw =>
  intro T E A H r hS hr;simp only [ig, aI] at hr ⊢;obtain ⟨q, hq, e⟩ := aN.1 hr;obtain ⟨r', h1, h2⟩ := Ms hG hc hS hq;subst e;rw [h1];exact ⟨_, rfl, rfl, h2⟩
 | seq x y ihx ihy =>
  intro T E A H r hS hr;simp only [ig, aI] at hr ⊢;obtain ⟨⟨e, T1, E1⟩, hx, hr⟩ := az.1 hr;obtain ⟨⟨e', A1, H1⟩, h1, h2⟩ := ihx hS hx;have he : e = e' := h2.e;subst he;rw [h1];simp only [be]
  cases e with
  | normal => exact ihy h2.st hr
  | exit i => cases hr; exact ⟨_, rfl, h2⟩
  | ret => cases hr; exact ⟨_, rfl, h2⟩
 | cond b x y ihx ihy =>
  intro T E A H r hS hr;simp only [ig, aI] at hr ⊢
  split at hr
  ·rename_i hok
   rw [hS.er.ev hG hok]
   split at hr
   ·rename_i e; rw [e]; simp only [PY]; exact ihx hS hr
   ·rename_i e; rw [e]; simp only [PY]; exact ihy hS hr
   ·cases hr
  ·cases hr
 | block id x ih =>
  intro T E A H r hS hr;simp only [ig, aI] at hr ⊢;obtain ⟨⟨e, T1, E1⟩, hx, hr⟩ := aN.1 hr;obtain ⟨⟨e', A1, H1⟩, h1, h2⟩ := ih hS hx;have he : e = e' := h2.e;subst he;rw [h1];subst hr
  cases e with
  | normal => exact ⟨_, rfl, h2⟩
  | exit i =>
   simp only [dx]
   by_cases hi : i = id
   ·rw [if_pos hi, if_pos hi]; exact ⟨_, rfl, rfl, h2.st⟩
   ·rw [if_neg hi, if_neg hi]; exact ⟨_, rfl, h2⟩
  | ret => exact ⟨_, rfl, h2⟩
 | loop x ih =>
  intro T E A H r hS hr;simp only [ig, aI] at hr ⊢
  suffices key : ∀ n T E A H, St g d m F (T, E) (A, H) → P7 (ig P G c N m x) n T E = some r → ∃ r', dD (aI P G c' x) n A H = some r' ∧ Ar g d m F r r' from by
   obtain ⟨r', h1, h2⟩ := key N T E A H hS hr;exact ⟨r', cp.2 ⟨N, h1⟩, h2⟩
  clear hr hS
  intro n
  induction n with
  | zero => intro T E A H hS hr; cases hr
  | succ n ihn =>
   intro T E A H hS hr;simp only [P7, dD] at hr ⊢;obtain ⟨⟨e, T1, E1⟩, hx, hr⟩ := az.1 hr;obtain ⟨⟨e', A1, H1⟩, h1, h2⟩ := ih hS hx;have he : e = e' := h2.e;subst he;rw [h1];simp only [be]
   cases e with
   | normal => exact ihn _ _ _ _ h2.st hr
   | exit i => cases hr; exact ⟨_, rfl, h2⟩
   | ret => cases hr; exact ⟨_, rfl, h2⟩
 | skip => intro T E A H r hS hr; simp only [ig] at hr; cases hr; exact ⟨_, rfl, rfl, hS⟩
 | label l => intro T E A H r hS hr; simp only [ig] at hr; cases hr; exact ⟨_, rfl, rfl, hS⟩
 | exit i => intro T E A H r hS hr; simp only [ig] at hr; cases hr; exact ⟨_, rfl, rfl, hS⟩
 | ret => intro T E A H r hS hr; simp only [ig] at hr; cases hr; exact ⟨_, rfl, rfl, hS⟩
 | _ => intro T E A H r hS hr; cases hr
theorem Mw {T : Tr Value} {E : EH} {A : List Value} {H : AH} (hS : St g d m F (T, E) (A, H)) (r : ResultVar) : jC P A H r = (uY P T E r).map (bj g d) := by
 cases r with
 | tmp t => simp only [jC, uY, dx]; rw [hS.er.get t]
 | cell a t =>
  simp only [jC, uY];rw [hS.er.get a]
  cases dS P t with
  | none => rfl
  | some n => cases n with
   | none => exact hS.hr.ld1 _
   | some n => exact hS.hr.ldN _ _
theorem Xs {T : Tr Value} {E : EH} {A : List Value} {H : AH} (hS : St g d m F (T, E) (A, H)) : ∀ rs : List ResultVar, qT P A H rs = (En P T E rs).map (fE g d) := by
 intro rs
 induction rs with
 | nil => rfl
 | cons r rs ih =>
  simp only [qT, En];rw [Mw hS, ih]
  cases uY P T E r with
  | none => rfl
  | some v => cases En P T E rs <;> rfl
theorem O9 {rs : List ResultVar} {x : TR} {y : AR} (h : Ar g d m F x y) : dd g d F (YH P rs x) (UD P rs y) := by
 intro v E' hx;obtain ⟨e, T, E⟩ := x;obtain ⟨e', A, H⟩ := y;have he : e = e' := h.e;subst he;have hS := h.st;have hm := Xs (P := P) hS rs
 have key : ∀ vs, En P T E rs = some vs → gI P A H rs = some ((bj g d) (match vs with | [v] => v | vs => .tuple vs.toArray)) := by
  intro vs hvs;unfold gI;rw [hm, hvs];simp only [dx]
  congr 1
  match vs with
  | [] => simp [fE]
  | [v] => rfl
  | v :: w :: vs => simp [fE]
 cases e with
 | exit i => cases hx
 | normal =>
  simp only [YH, UD] at hx ⊢;obtain ⟨vs, hvs, e⟩ := aN.1 hx;cases e;rw [key vs hvs];exact ⟨H, rfl, hS.hr⟩
 | ret =>
  simp only [YH, UD] at hx ⊢;obtain ⟨vs, hvs, e⟩ := aN.1 hx;cases e;rw [key vs hvs];exact ⟨H, rfl, hS.hr⟩
theorem Xa : ∀ (vs : List Value) (i : Nat) (T : Tr Value) {T' : Tr Value}, Jm vs i T = some T' → ∀ t, B2 T' t = if i ≤ t ∧ t < i + vs.length then (vs[t - i]?).getD undef else B2 T t := by
 intro vs
 induction vs with
 | nil => intro i T T' h t; simp only [Jm] at h; cases h; rw [if_neg (by simp only [List.length_nil]; omega)]
 | cons v vs ih =>
  intro i T T' h t;simp only [Jm] at h;obtain ⟨T1, h1, h⟩ := az.1 h;rw [ih _ _ h t, Jl h1]
  by_cases e1 : i + 1 ≤ t ∧ t < i + 1 + vs.length
  ·rw [if_pos e1, if_pos (by simp; omega)]
   rw [show t - i = (t - (i + 1)) + 1 from by omega, List.getElem?_cons_succ]
  ·rw [if_neg e1]
   by_cases e2 : t = i
   ·subst e2; rw [if_pos rfl, if_pos (by simp)]; simp
   ·rw [if_neg e2, if_neg (by simp; omega)]
theorem UV {D : List Nat} (hG : ∀ b ∈ G, b < g) (hD : ∀ k ∈ D, sN P k) : ∀ k, pU g d F (Em P G D N k) (dR P G k) := by
 intro k
 induction k with
 | zero => intro E H f args hR v E' h; cases h
 | succ k ih =>
  intro E H f args hR v E' h;rw [Em] at h;rw [dR];simp only [] at h ⊢
  cases hf : P.funcs[f]? with
  | none => rw [hf] at h; cases h
  | some fn =>
   rw [hf] at h;simp only at h ⊢
   split at h
   ·cases h
   ·rename_i hn
    rw [if_neg hn]
    cases hb : fn.body with
    | none => rw [hb] at h; cases h
    | some c =>
     rw [hb] at h;simp only at h ⊢
     split at h
     ·rename_i hle
      have hle := Nat.le_of_ble_eq_true hle;obtain ⟨T, hT, h⟩ := az.1 h
      have hS : St g d fn.ntmps F (T, E) (fE g d args ++ List.replicate (fn.ntmps - (fE g d args).length) undef, H) := by
       refine ⟨⟨by simp; omega, fun t => ?_⟩, hR⟩;rw [Xa _ _ _ hT];simp only [fE, List.getElem?_append, qK, vH, List.getElem?_replicate]
       by_cases e : t < args.length
       ·rw [if_pos (show 0 ≤ t ∧ t < 0 + args.length from by omega), if_pos e]
        simp [bu e]
       ·rw [if_neg (show ¬ (0 ≤ t ∧ t < 0 + args.length) from by omega), if_neg e]
        have : B2 .lf t = undef := rfl;rw [this, pJ]
        split <;> rfl
      cases hd : jo c with
      | none =>
       rw [hd] at h;obtain ⟨r, hr, h⟩ := az.1 h;obtain ⟨r', h1, h2⟩ := HQ hG ih c hS hr;simp only;unfold nO;rw [h1];exact O9 h2 v E' h
      | some q =>
       rw [hd] at h;simp only at h ⊢
       split at h
       ·rename_i hin
        rw [i3 (hD _ (by simpa using hin))];unfold YG at h;unfold mZ;obtain ⟨⟨e1, T1, E1⟩, hr, h⟩ := az.1 h;obtain ⟨⟨e2, A1, H1⟩, h1, h2⟩ := HQ hG ih q.c1 hS hr;have he : e1 = e2 := h2.e;subst he;rw [h1];simp only [be]
        cases e1 with
        | exit i => cases h
        | ret => cases h
        | normal =>
         simp only at h ⊢
         split at h
         ·rename_i hlt
          have hlt : q.t < fn.ntmps := Nat.le_of_ble_eq_true hlt;have hlen : A1.length = fn.ntmps := h2.st.er.len;rw [if_neg (by omega)];obtain ⟨⟨T2, E2⟩, h3, h⟩ := az.1 h;obtain ⟨⟨A2, H2⟩, h4, h5⟩ := Ji hG ih h2.st h3;obtain ⟨z, h6, h⟩ := az.1 h;obtain ⟨⟨⟨A3, H3⟩, h7, h8⟩, _⟩ := Gy hG ih _ h5 h6;rw [h4];simp only [be];rw [h7];exact O9 (x := (.normal, z.2.1, z.2.2)) (y := (.normal, A3, H3)) ⟨rfl, h8⟩ v E' h
         ·cases h
       ·cases h
     ·cases h
end
def XK (tab : List Value) : Option (Value × EH) → Bool
 | some (.bool true, E) => match E.get 0 with
  | some (.cells true cs) => CB (ZI 0) cs tab
  | _ => false
 | _ => false
def Jn (tab : List Value) : EH := ⟨1, .nd (some (.cells true tab)) .lf .lf⟩
theorem J3 {P : Program} {D : List Nat} {N k f : Nat} {tab : List Value} (hD : ∀ k ∈ D, sN P k) (hl : tab.all cA = true) (h : XK tab (Em P [0] D N k f [] (Jn tab)) = true)
 {H : AH} (hH : H.get 0 = some (.cells true tab)) : ∃ H', aF P [0] f [] H = some (.bool true, H') ∧ H.size ≤ H'.size ∧ ∀ i, i < H.size → H'.get i = H.get i := by
 obtain ⟨objs⟩ := H
 cases objs with
 | nil => cases hH
 | cons o F =>
  have ho : o = .cells true tab := by simpa [AH.get] using hH
  subst ho
  have hR : HR 1 F.length F (Jn tab) ⟨.cells true tab :: F⟩ := by
   refine ⟨rfl, bm _, by simp [AH.size, Jn, Nat.add_comm], fun b => ?_, fun b hb => ?_, fun b h1 h2 => ?_⟩
   ·cases b with
    | zero =>
     have : yQ 1 F.length 0 = 0 := rfl;rw [this];show some _ = some (AObj.cells true (fE 1 F.length tab));rw [uS hl]
    | succ b =>
     have e : yQ 1 F.length (b + 1) = b + 1 + F.length := by simp [yQ]
     have e2 : (Jn tab).get (b + 1) = none := by
      simp only [EH.get, Jn, Tr.get]; split <;> rfl
     rw [e, e2];exact AH.get_none (by simp [AH.size]; omega)
   ·have : 1 ≤ b := hb
    obtain ⟨b, rfl⟩ : ∃ c, b = c + 1 := ⟨b - 1, by omega⟩
    simp only [EH.get, Jn, Tr.get]; split <;> rfl
   ·obtain ⟨b, rfl⟩ : ∃ c, b = c + 1 := ⟨b - 1, by omega⟩
    simp [AH.get]
  unfold XK at h
  split at h
  ·rename_i E' hE
   obtain ⟨H', h1, h2⟩ := UV (F := F) (N := N) (P := P) (by simp) hD k (Jn tab) _ f [] hR _ _ hE;refine ⟨H', ?_, ?_, fun i hi => ?_⟩
   ·have := M1 k _ _ _ _ h1
    simpa using this
   ·rw [h2.size]
    have := h2.le;simp [AH.size]; omega
   ·split at h
    ·rename_i cs hcs
     have he : cs = tab := z7 (Dp 0) _ _ h;subst he
     cases i with
     | zero =>
      have := h2.get 0;rw [show yQ 1 F.length 0 = 0 from rfl, hcs] at this;rw [this];show some (AObj.cells true (fE 1 F.length cs)) = _;rw [uS hl]; rfl
     | succ i =>
      have hi : i < F.length := by simpa [AH.size] using hi
      rw [h2.fr (i + 1) (by omega) (by omega)];simp [AH.get]
    ·cases h
  ·cases h
section
variable {P : Program} {w : World} {ev : Operand → Value} {d : Option Tmp} {x : Operand} {v a b : Value} {y : TypeId} {p : String} {e : Array Edge} {gd : Option (Nat × Bool)}
end
def tabC : List Value := [0,1,56,2,57,49,28,3,61,58,42,50,38,29,17,4,62,47,59,36,45,43,51,22,53,39,33,30,24,18,12,5,63,55,48,27,60,41,37,16,46,35,44,21,52,32,23,11,54,26,40,15,34,20,31,10,25,14,19,9,13,8,7,6].map fun n => .int .u8 n
theorem Qy : XK tabC (Em Tryz.prog [0] [] 100000 60 25 [] (Jn tabC)) = true := by decide +kernel
theorem ac.keeps {P : SP} {H H' : AH} (h : ac P H) (k : ∀ i, i < H.size → H'.get i = H.get i) : ac P H' := by
 obtain ⟨x, hx, hg⟩ := h
 exact ⟨x, hx, fun i o hi => by
  have := hg i o hi
  rw [k i (AH.lt_of_get this)]; exact this⟩
theorem UI {H0 : AH} (hT : H0.get 0 = some (.cells true tabC)) : Hs (fix H0) 0 (.cells true tabC) := ⟨fun h => (Fx.refl H0).fx h 0 _ hT⟩
theorem Qw {H0 : AH} {v : Value} {l : List Int} (h : Abs H0 (.slice (.int .i64)) l [v]) : Rd (fix H0) v 1 bH l :=
 Rd.arg (t := .int .i64) (enc := bH) (E := inferInstanceAs (Enc bH 1)) (fun x c h => h.1) h
abbrev ITy : Ty := .int .i64
abbrev CfgTy : Ty := .pair ITy (.pair ITy (.pair ITy (.pair ITy (.pair (.int .u64) .unit))))
abbrev ClTy : Ty := .pair ITy (.pair ITy (.pair ITy (.pair ITy .unit)))
def YJ (x : ClTy.I) : Cl := ⟨x.1, x.2.1, x.2.2.1, x.2.2.2.1⟩
theorem adA {H : AH} {x : ClTy.I} {cs : List Value} (h : Abs H ClTy x cs) : cs = Cl.cells (YJ x) := by
 obtain ⟨c1, c2, rfl, h1, c3, c4, rfl, h2, c5, c6, rfl, h3, c7, c8, rfl, h4, h5⟩ := h;have h5 : c8 = [] := h5;rw [h1.1, h2.1, h3.1, h4.1, h5]
 rfl
theorem ZB {H : AH} {x : CfgTy.I} {cs : List Value} (h : Abs H CfgTy x cs) : ∃ c : gF, cs = gF.cells c := by
 obtain ⟨c1, c2, rfl, h1, c3, c4, rfl, h2, c5, c6, rfl, h3, c7, c8, rfl, h4, c9, c10, rfl, h5, h6⟩ := h;have h6 : c10 = [] := h6;obtain ⟨e5, hw⟩ := h5
 have : 0 ≤ x.2.2.2.2.1 ∧ x.2.2.2.2.1 ≤ 18446744073709551615 := by simpa [Lit.wf, IntKind.has, IntKind.min, IntKind.max, IntKind.bits, IntKind.signed] using hw
 refine ⟨⟨x.1, x.2.1, x.2.2.1, x.2.2.2.1, x.2.2.2.2.1.toNat⟩, ?_⟩;rw [h1.1, h2.1, h3.1, h4.1, e5, h6];show _ = [vi x.1, vi x.2.1, vi x.2.2.1, vi x.2.2.2.1, .int .u64 ((x.2.2.2.2.1.toNat : Nat) : Int)];rw [Int.toNat_of_nonneg this.1]
 rfl
theorem JT {H0 : AH} {v : Value} {l : List ClTy.I} (h : Abs H0 (.slice ClTy) l [v]) : Rd (fix H0) v 4 Cl.cells (l.map YJ) := by
 have E : Enc (fun x : ClTy.I => Cl.cells (YJ x)) ClTy.w := ⟨fun _ => rfl, fun _ => rfl, by decide⟩;have r := Rd.arg (t := ClTy) (enc := fun x => Cl.cells (YJ x)) (E := E) (fun x c hx => adA hx) h;refine ⟨fun {H} hh => ?_⟩;have := r.rd hh;rw [List.flatMap_map, qK];exact this
structure New (σ : aE) (k : Nat) : Prop where
 si : SI σ k
 js : ∀ l, l.1 ≠ 10 → σ.μ.V l = 0
theorem wM {flow : Int} {obj : Nat} (h : obj < 4294967296) : dn flow obj % 4294967296 = obj := by
 unfold dn;omega
theorem New.lay {σ : aE} {k : Nat} (h : New σ k) (ho : σ.obs.length < 90) (f w most : Int) (hf : 0 ≤ f ∧ f < 1000) : New (σ.lay f w most) (k + 4) := by
 obtain ⟨⟨c, N, E, pts, V, obs, cells, slot, head⟩, js⟩ := h;obtain ⟨q1, q2, q3⟩ := qw most
 have hsl : dn f σ.obs.length < 18446744073709551616 := by unfold dn; omega
 have hlen : (σ.lay f w most).obs.length = σ.obs.length + 1 := by simp [aE.lay, aE.make]
 refine ⟨⟨c, by simp [aE.lay, aE.make]; omega, by simp [aE.lay, aE.make]; omega, by simp [aE.lay, aE.make]; omega, fun l => ?_, by rw [hlen]; omega, fun o ho2 => ?_, fun s i => ?_, fun o => ?_⟩, fun l hl => ?_⟩
 ·show (if l = (10, f.tmod σ.c.sh, f.tdiv σ.c.sh) then dn f σ.obs.length else σ.μ.V l) < _
  split
  ·exact hsl
  ·exact V l
 ·rw [hlen] at ho2
  unfold av;show 1 ≤ ((((σ.obs ++ [_])[o]?).map _).getD []).length ∧ ((((σ.obs ++ [_])[o]?).map _).getD []).length < 1000
  by_cases e : o < σ.obs.length
  ·rw [List.getElem?_append_left e]
   exact cells o e
  ·rw [show o = σ.obs.length from by omega, List.getElem?_append_right (bm _), Nat.sub_self]
   show 1 ≤ (List.replicate (cU most) GH).length ∧ (List.replicate (cU most) GH).length < 1000;rw [List.length_replicate];omega
 ·rw [hlen]
  show (if (10, s, i) = ((10 : Int), f.tmod σ.c.sh, f.tdiv σ.c.sh) then dn f σ.obs.length else σ.μ.V (10, s, i)) ≠ 0 → (if (10, s, i) = ((10 : Int), f.tmod σ.c.sh, f.tdiv σ.c.sh) then dn f σ.obs.length else σ.μ.V (10, s, i)) % 4294967296 < _
  split
  ·intro _
   rw [wM (by omega)];omega
  ·intro hv
   have := slot s i hv;omega
 ·show (if ((12 : Int), (o : Int), (0 : Int)) = (10, f.tmod σ.c.sh, f.tdiv σ.c.sh) then dn f σ.obs.length else σ.μ.V (12, o, 0)) ≤ _
  rw [if_neg (by simp)];have := head o;omega
 ·show (if l = (10, f.tmod σ.c.sh, f.tdiv σ.c.sh) then dn f σ.obs.length else σ.μ.V l) = 0
  rw [if_neg (fun e => hl (by rw [e]))];exact js l hl
theorem Xq (c : gF) (hc : b5 c = true) : ∀ n, n ≤ 16 → New (aE.made c n) (4 * n) := by
 intro n
 induction n with
 | zero =>
  intro _;exact ⟨⟨hc, bm _, bm _, bm _, fun _ => (by show (0 : Nat) < _; omega), (by show (0 : Nat) ≤ _; omega), fun o ho => (by cases ho), fun s i h => absurd rfl h, fun o => bm _⟩, fun _ _ => rfl⟩
 | succ n ih =>
  intro hn;have h := ih (by omega);have hm := (LC c n).2.2;unfold aE.made
  split
  ·exact h.lay (by omega) _ _ _ (by omega)
  ·exact ⟨h.si.mono (by omega), h.js⟩
theorem SI.clear {σ : aE} {k : Nat} (h : SI σ k) (s i : Int) : SI (σ.mem (σ.μ.put (10, s, i) 0)) k := by
 refine ⟨h.c, h.N, h.E, h.pts, fun x => ?_, h.obs, h.cells, fun s' i' => ?_, fun o => ?_⟩
 ·show (if x = (10, s, i) then 0 else σ.μ.V x) < _
  split
  ·omega
  ·exact h.V x
 ·show (if ((10 : Int), s', i') = (10, s, i) then 0 else σ.μ.V (10, s', i')) ≠ 0 → (if ((10 : Int), s', i') = (10, s, i) then 0 else σ.μ.V (10, s', i')) % _ < _
  split
  ·intro h; exact absurd rfl h
  ·exact h.slot s' i'
 ·show (if ((12 : Int), (o : Int), (0 : Int)) = (10, s, i) then 0 else σ.μ.V (12, o, 0)) ≤ _
  rw [if_neg (by simp)];exact h.head o
section
variable (p x : Nat) (rp : List Nat) (σ : aE) (K : Nat)
theorem MS {P : SP} {H : AH} {Q : Value → AH → Prop} {k : Value × AH → OV} {a b : Int} (h : ac P H) (h0 : 0 < b) (h1 : b < 9223372036854775808) (hk : ∀ H', ac P H' → wp (k (vi (dF a b), H')) Q) : wp ((FF a9 [vi a, vi b] H).bind k) Q := by
 refine af h (ca a b h0 h1) fun _ H1 h2 => ?_;exact hk H1 h2.to
end
theorem SI.make {σ : aE} {k : Nat} (h : SI σ k) (who : Int) (o : Ob) : SI (σ.make who o) (k + 3) := by
 obtain ⟨c, N, E, pts, V, obs, cells, slot, head⟩ := h;obtain ⟨q1, q2, q3⟩ := qw o.most
 have hlen : (σ.make who o).obs.length = σ.obs.length + 1 := by simp [aE.make]
 refine ⟨c, by simp [aE.make]; omega, by simp [aE.make]; omega, by simp [aE.make]; omega, V, by rw [hlen]; omega, fun o' ho2 => ?_, fun s i hv => ?_, fun o' => ?_⟩
 ·rw [hlen] at ho2
  unfold av;show 1 ≤ ((((σ.obs ++ [_])[o']?).map _).getD []).length ∧ ((((σ.obs ++ [_])[o']?).map _).getD []).length < 1000
  by_cases e : o' < σ.obs.length
  ·rw [List.getElem?_append_left e]
   exact cells o' e
  ·rw [show o' = σ.obs.length from by omega, List.getElem?_append_right (bm _), Nat.sub_self]
   show 1 ≤ (List.replicate (cU o.most) GH).length ∧ (List.replicate (cU o.most) GH).length < 1000;rw [List.length_replicate];omega
 ·rw [hlen]
  have := slot s i hv;show σ.μ.V (10, s, i) % 4294967296 < _;omega
 ·have := head o'
  show σ.μ.V (12, o', 0) ≤ _;omega
structure KeptR (σ : aE) (t : Tk) (r : aE × Tk × Bool) (k : Nat) : Prop where
 si : SI r.1 (k + 3)
 c : r.1.c = σ.c
 obs : σ.obs.length ≤ r.1.obs.length
 ok : r.2.2 = false → ROk r.1 r.2.1
 x : r.2.1.x = t.x
 who : r.2.1.who = t.who
section
variable {σ : aE} {t : Tk} {k : Nat}
end
theorem ROk.new {σ : aE} (hc : b5 σ.c = true) (who : Int) (x : Cl) : ROk σ (Tk.newR σ.c who x) := by
 have := bW.1 hc;exact ⟨rfl, fun _ => by simp; omega, by simp, .inl rfl, by simp, by simp, by simp⟩
theorem ROk.mono {σ σ' : aE} {t : Tk} (T : ROk σ t) (hc : σ'.c = σ.c) (ho : σ.obs.length ≤ σ'.obs.length) : ROk σ' t :=
 ⟨by rw [hc]; exact T.s, by rw [hc]; exact T.i, T.x, T.ats, T.mark, fun h => Nat.lt_of_lt_of_le (T.obj h) ho, T.w⟩
theorem eM.mono' {σ σ' : aE} {t : Tk} (T : eM σ t) (hc : σ'.c = σ.c) (ho : σ.obs.length ≤ σ'.obs.length) : eM σ' t :=
 ⟨fun h => Nat.lt_of_lt_of_le (T.obj h) ho, by rw [hc]; exact T.s, by rw [hc]; exact T.i, T.w, T.c5, T.c0, T.ats⟩
theorem abJ (σ : aE) (t : Tk) (now : Int) : (ai σ t now).2.1.x = t.x := by
 unfold ai;dsimp only
 repeat' split
 all_goals rfl
def pK (σ : aE) (t : Tk) (now : Int) : aE × Tk × Bool := if t.x.op = 3 then ai σ t now else P4 σ t now
structure Zl (σ : aE) (t : Tk) : Prop where
 e : t.x.op = 3 → eM σ t
 r : t.x.op ≠ 3 → ROk σ t
def Tk.newA (c : gF) (who : Int) (x : Cl) : Tk := if x.op = 3 then Tk.new c who x else Tk.newR c who x
structure KeptA (σ : aE) (t : Tk) (r : aE × Tk × Bool) (k : Nat) : Prop where
 si : SI r.1 (k + 3)
 c : r.1.c = σ.c
 obs : σ.obs.length ≤ r.1.obs.length
 ok : r.2.2 = false → Zl r.1 r.2.1
 x : r.2.1.x = t.x
theorem Zl.new {σ : aE} (hc : b5 σ.c = true) (who : Int) (x : Cl) : Zl σ (Tk.newA σ.c who x) := by
 by_cases ho : x.op = 3
 ·rw [show Tk.newA σ.c who x = Tk.new σ.c who x from if_pos ho]
  exact ⟨fun _ => eM.new hc who x, fun h => absurd ho h⟩
 ·rw [show Tk.newA σ.c who x = Tk.newR σ.c who x from if_neg ho]
  exact ⟨fun h => absurd h ho, fun _ => ROk.new hc who x⟩
theorem Zl.mono {σ σ' : aE} {t : Tk} (T : Zl σ t) (hc : σ'.c = σ.c) (ho : σ.obs.length ≤ σ'.obs.length) : Zl σ' t := ⟨fun h => (T.e h).mono' hc ho, fun h => (T.r h).mono hc ho⟩
section
variable (p x : Nat) (rp : List Nat)
end
theorem Tb {P : SP} {H : AH} {s : Value} {l : List Int} [hR : Rd P s 1 bH l] (n most : Nat) (hn : 0 < n ∧ n < 1000) (hm : most < 1000) {k : Value × AH → OV} {Q : Value → AH → Prop} (h : ac P H)
 (hk : ∀ (v : Value) (o : List Int) (H' : AH), o.length ≤ most → (∀ y ∈ o, 0 ≤ y ∧ y < n) → ac (ts 1 bH v o * P) H' → wp (k (v, H')) Q) : wp ((FF Pq [s, vi (n : Int), vi (most : Int)] H).bind k) Q := by
 have law : Sp Pq [s, vi (n : Int), vi (most : Int)] P (fun g : Value × List Int => g.1) (fun g => pu (g.2.length ≤ most ∧ ∀ y ∈ g.2, 0 ≤ y ∧ y < n) * (ts 1 bH g.1 g.2 * P)) := by
  refine aU (adV _ _ _) fun R H h => ?_;refine ag (SZ ..) ?_;refine ag (S0 ..) ?_;have app : ∀ (v : Value) (o : List Int) (x : Int) (H : AH) {kk : Value × AH → OV} {Q : Value → AH → Prop}, o.length < most → ac (ts 1 bH v o * (P * R)) H → (∀ v' H', ac (ts 1 bH v' (o ++ [x]) * (P * R)) H' → wp (kk (v', H')) Q) →
   wp (sK 1 1 [(vi 0)] [(0, vi x)] H fun v25 H26 => (cO 1 8 v v25 H26).bind kk) Q := by
   intro v o x H kk Q ho hh hk;refine Ht hh fun b H1 h1 => ?_;refine eA (s := v) (l := o) (x : Int) h1 rfl ?_ (by omega) fun a c H2 h2 => ?_
   ·unfold room; omega
   exact hk _ H2 h2.to
  have snoc : ∀ {o : List Int} {x : Int}, (∀ y ∈ o, 0 ≤ y ∧ y < (n : Int)) → ∀ y ∈ o ++ [dF x n], 0 ≤ y ∧ y < (n : Int) := by
   intro o x hv y hy
   rcases List.mem_append.1 hy with hy | hy
   ·exact hv y hy
   ·rw [List.mem_singleton.1 hy]; exact eF (by omega)
  -- one again and again
  have inner : ∀ (d i j : Nat) (ki : Int) (v : Value) (o : List Int) (H : AH) {Q : Value → AH → Prop}, most - o.length = d → o.length ≤ most → (∀ y ∈ o, 0 ≤ y ∧ y < (n : Int)) → i < l.length → 0 ≤ ki ∧ ki < 40 → j < 1000 + o.length → ac (ts 1 bH v o * (P * R)) H →
   (∀ v' o' H', o.length ≤ o'.length → o'.length ≤ most → (∀ y ∈ o', 0 ≤ y ∧ y < (n : Int)) → ac (ts 1 bH v' o' * (P * R)) H' → wp (GA s (vi (n : Int)) (vi (most : Int)) (.slice none 0 0) v' (vi ki) (vi (i : Int)) H') Q) →
   wp (zk s (vi (n : Int)) (vi (most : Int)) (.slice none 0 0) v (vi ki) (vi (i : Int)) (vi (j : Int)) H) Q := by
   intro d
   induction d with
   | zero =>
    intro i j ki v o H Q hd ho hv hil hki hj hh hk;refine ag (Bb ..) ?_;refine da (s := s) (l := l) (v := vi l[i]) hh hil rfl ?_;refine af hh (ca l[i] 7 (by omega) (by omega)) fun _ H1 h1 => ?_;have m7 := eF (v := l[i]) (n := 7) (by omega);refine aa (jw (by omega)) ?_;have q3 : 0 ≤ ki.tmod 3 ∧ ki.tmod 3 < 3 := ⟨Int.tmod_nonneg _ hki.1, Int.tmod_lt_of_pos _ (by omega)⟩;have p0 : 0 ≤ dF l[i] 7 * ki.tmod 3 := Int.mul_nonneg m7.1 q3.1;have p1 : dF l[i] 7 * ki.tmod 3 ≤ 7 * 3 := Int.mul_le_mul (by omega) (by omega) q3.1 (by omega);refine aa (p6 (by omega) (by omega)) ?_
    have out : wp (qz s (vi (n : Int)) (vi (most : Int)) (.slice none 0 0) v (vi ki) (vi (i : Int)) H1) Q := by
     refine ag (t4 ..) ?_;exact hk v o H1 (bm _) ho hv h1.to
    by_cases hlt : (j : Int) < dF l[i] 7 * ki.tmod 3
    ·refine aa (cy hlt) ?_
     refine gs ?_;refine fC (s := v) (l := o) h1 ?_;refine gs ?_;refine aa (bF (by omega)) ?_;refine gs ?_;exact out
    ·refine aa (bF hlt) ?_
     refine gs ?_;exact out
   | succ d ih =>
    intro i j ki v o H Q hd ho hv hil hki hj hh hk;refine ag (Bb ..) ?_;refine da (s := s) (l := l) (v := vi l[i]) hh hil rfl ?_;refine af hh (ca l[i] 7 (by omega) (by omega)) fun _ H1 h1 => ?_;have m7 := eF (v := l[i]) (n := 7) (by omega);refine aa (jw (by omega)) ?_;have q3 : 0 ≤ ki.tmod 3 ∧ ki.tmod 3 < 3 := ⟨Int.tmod_nonneg _ hki.1, Int.tmod_lt_of_pos _ (by omega)⟩;have p0 : 0 ≤ dF l[i] 7 * ki.tmod 3 := Int.mul_nonneg m7.1 q3.1;have p1 : dF l[i] 7 * ki.tmod 3 ≤ 7 * 3 := Int.mul_le_mul (by omega) (by omega) q3.1 (by omega);refine aa (p6 (by omega) (by omega)) ?_
    have out : wp (qz s (vi (n : Int)) (vi (most : Int)) (.slice none 0 0) v (vi ki) (vi (i : Int)) H1) Q := by
     refine ag (t4 ..) ?_;exact hk v o H1 (bm _) ho hv h1.to
    by_cases hlt : (j : Int) < dF l[i] 7 * ki.tmod 3
    ·refine aa (cy hlt) ?_
     refine gs ?_;refine fC (s := v) (l := o) h1 ?_;refine gs ?_;refine aa (cy (by omega)) ?_;refine gs ?_;refine ag (LP ..) ?_;refine da (s := s) (l := l) (v := vi l[i]) h1 hil rfl ?_;refine af h1 (ca l[i] n (by omega) (by omega)) fun _ H2 h2 => ?_;refine app v o (dF l[i] n) H2 (by omega) h2.to fun v' H3 h3 => ?_;refine ag (LQ ..) ?_;refine aa (aJ (by omega) (by omega)) ?_;rw [show ((j : Nat) : Int) + 1 = ((j + 1 : Nat) : Int) from by omega]
     have hl1 : (o ++ [dF l[i] n]).length = o.length + 1 := by simp
     exact ih i (j + 1) ki v' (o ++ [dF l[i] n]) H3 (by omega) (by omega) (snoc hv) hil hki (by omega) h3 (fun v4 o4 H4 hle h1' hv' h2' => hk v4 o4 H4 (by omega) h1' hv' h2')
    ·refine aa (bF hlt) ?_
     refine gs ?_;exact out
  have mid : ∀ (d i : Nat) (ki : Int) (v : Value) (o : List Int) (H : AH) {Q : Value → AH → Prop}, most - o.length = d → o.length ≤ most → (∀ y ∈ o, 0 ≤ y ∧ y < (n : Int)) → i ≤ o.length → 0 ≤ ki ∧ ki < 40 → ac (ts 1 bH v o * (P * R)) H →
   (∀ v' o' H', o'.length ≤ most → (∀ y ∈ o', 0 ≤ y ∧ y < (n : Int)) → ac (ts 1 bH v' o' * (P * R)) H' → wp (LR s (vi (n : Int)) (vi (most : Int)) (.slice none 0 0) v' (vi ki) H') Q) →
   wp (zj s (vi (n : Int)) (vi (most : Int)) (.slice none 0 0) v (vi ki) (vi (i : Int)) H) Q := by
   intro d
   induction d using Nat.strongRecOn with
   | ind d ih =>
    intro i ki v o H Q hd ho hv hio hki hh hk;refine ag (LK ..) ?_;refine cw (s := s) (l := l) hh ?_
    have out : wp (vS s (vi (n : Int)) (vi (most : Int)) (.slice none 0 0) v (vi ki) H) Q := by
     refine ag (Gz ..) ?_;exact hk v o H ho hv hh
    by_cases hil : i < l.length
    ·refine aa (cy (by omega)) ?_
     refine gs ?_;refine fC (s := v) (l := o) hh ?_;refine gs ?_
     by_cases hlt : o.length < most
     ·refine aa (cy (by omega)) ?_
      refine gs ?_;refine ag (LM ..) ?_;refine da (s := s) (l := l) (v := vi l[i]) hh hil rfl ?_;refine af hh (ca l[i] n (by omega) (by omega)) fun _ H2 h2 => ?_;refine app v o (dF l[i] n) H2 (by omega) h2.to fun v' H3 h3 => ?_;refine ag (LO ..) ?_
      have hl1 : (o ++ [dF l[i] n]).length = o.length + 1 := by simp
      refine inner (most - (o.length + 1)) i 0 ki v' (o ++ [dF l[i] n]) H3 (by omega) (by omega) (snoc hv) hil hki (by omega) h3 fun v4 o4 H4 hle h1' hv' h2' => ?_;refine ag (LN ..) ?_;refine aa (aJ (by omega) (by omega)) ?_;rw [show ((i : Nat) : Int) + 1 = ((i + 1 : Nat) : Int) from by omega];exact ih (most - o4.length) (by omega) (i + 1) ki v4 o4 H4 rfl h1' hv' (by omega) hki h2' hk
     ·refine aa (bF (by omega)) ?_
      refine gs ?_;exact out
    ·refine aa (bF (by omega)) ?_
     refine gs ?_;exact out
  have outer : ∀ (d k : Nat) (v : Value) (o : List Int) (H : AH), k + d = 40 → o.length ≤ most → (∀ y ∈ o, 0 ≤ y ∧ y < (n : Int)) → ac (ts 1 bH v o * (P * R)) H →
   wp (GB s (vi (n : Int)) (vi (most : Int)) (.slice none 0 0) v (vi (k : Int)) H) fun v' H' => ∃ g : Value × List Int, v' = g.1 ∧ ac (pu (g.2.length ≤ most ∧ ∀ y ∈ g.2, 0 ≤ y ∧ y < n) * (ts 1 bH g.1 g.2 * P) * R) H' := by
   intro d
   induction d with
   | zero =>
    intro k v o H hk ho hv hh;refine ag (DY ..) ?_;refine aa (bF (by omega)) ?_;refine gs ?_;refine ag (xe ..) ?_;refine ag (DX ..) ?_;refine am ⟨(v, o), rfl, ?_⟩;rw [ak, ac.pu];exact ⟨⟨ho, hv⟩, hh.to⟩
   | succ d ih =>
    intro k v o H hk ho hv hh;refine ag (DY ..) ?_;refine aa (cy (by omega)) ?_;refine gs ?_;refine fC (s := s) (l := l) hh ?_;refine gs ?_
    by_cases hl0 : 0 < l.length
    ·refine aa (w6 (by omega)) ?_
     refine gs ?_;refine ag (S2 ..) ?_;refine ag (S4 ..) ?_;refine mid (most - o.length) 0 k v o H rfl ho hv (Nat.zero_le _) (by omega) hh fun v' o' H' ho' hv' h' => ?_;refine ag (S3 ..) ?_;refine aa (aJ (by omega) (by omega)) ?_;rw [show ((k : Nat) : Int) + 1 = ((k + 1 : Nat) : Int) from by omega];exact ih (k + 1) v' o' H' (by omega) ho' hv' h'
    ·refine aa (gO (by omega)) ?_
     refine gs ?_;refine ag (xe ..) ?_;refine ag (DX ..) ?_;refine am ⟨(v, o), rfl, ?_⟩;rw [ak, ac.pu];exact ⟨⟨ho, hv⟩, hh.to⟩
  have h0 := cK 1 bH h;exact outer 40 0 (.slice none 0 0) [] H rfl (Nat.zero_le _) (fun y hy => by cases hy) h0
 obtain ⟨⟨v, o⟩, H', e, h'⟩ := law emp H (by rw [dB]; exact h);rw [e];rw [dB, ac.pu] at h';exact hk v o H' h'.1.1 h'.1.2 h'.2
theorem adE {b w n e : Nat} {kk : IntKind} (hw : w < n) : JM [.a n e (.int kk (w : Int))] (vp b) b (w * e) := fun k => by
 rw [aeX hw]; show k (pR b (0 + w * e)) = _; rw [Nat.zero_add]
theorem mV {P : SP} {H : AH} {b w n : Nat} {kk : IntKind} {ro : Bool} {cs : List Value} {v : Value} {Q : Value → AH → Prop} {k : Value → OV} (h : ac P H) [i : Hs P b (.cells ro cs)] (hw : w < n) (hv : cs[w]? = some v) (hk : wp (k v) Q) : wp (ld [.a n 1 (.int kk (w : Int))] (vp b) H k) Q :=
 ar h (adE hw) (by rw [Nat.mul_one]; exact hv) hk
theorem MF (cs : List Value) (w : Nat) (v : Value) (h : w < cs.length) : splice cs w [v] = cs.set w v := by
 unfold splice;rw [List.set_eq_take_append_cons_drop, if_pos h];simp
theorem Qh {P P' : SP} {H : AH} {b w n : Nat} {kk : IntKind} {cs : List Value} {v : Value} {Q : Value → AH → Prop} {k : AH → OV} (h : ac P H) [i : Hs P b (.cells false cs)] (hw : w < n) (hn : cs.length = n) [c : sM v [v]] (hv : [v].all Value.oneCell' = true) [u : Up P b (.cells false (cs.set w v)) P']
 (hk : ∀ H', ac P' H' → wp (k H') Q) : wp (st 1 [.a n 1 (.int kk (w : Int))] (vp b) v H k) Q := by
 haveI : u4 cs w [v] (cs.set w v) := ⟨by simp; omega, (MF cs w v (by omega)).symm⟩
 exact bh h (o := w) (fun k => by rw [aeX hw]; show k (pR b (0 + w * 1)) = _; rw [Nat.zero_add, Nat.mul_one]) rfl hv hk
abbrev Wk := Option (Nat × Nat × Tk)
def WkR (σ : aE) (q : Wk) : Prop := match q with
 | none => True
 | some q => Zl σ q.2.2
structure WsR (σ : aE) (ws : List Wk) (ats : List Nat) : Prop where
 l : ws.length = 4
 al : ats.length = 4
 r : ∀ w (h : w < 4), WkR σ (ws[w]'(by omega))
theorem WkR.mono {σ σ' : aE} {q : Wk} (h : WkR σ q) (hc : σ'.c = σ.c) (ho : σ.obs.length ≤ σ'.obs.length) : WkR σ' q := by
 cases q with
 | none => trivial
 | some q => exact Zl.mono (show Zl σ q.2.2 from h) hc ho
theorem WsR.mono {σ σ' : aE} {ws : List Wk} {ats : List Nat} (h : WsR σ ws ats) (hc : σ'.c = σ.c) (ho : σ.obs.length ≤ σ'.obs.length) : WsR σ' ws ats :=
 ⟨h.l, h.al, fun w hw => (h.r w hw).mono hc ho⟩
theorem WsR.set {σ : aE} {ws : List Wk} {ats : List Nat} (h : WsR σ ws ats) {w : Nat} (hw : w < 4) {q : Wk} (a : Nat) (hq : WkR σ q) : WsR σ (ws.set w q) (ats.set w a) := by
 refine ⟨by simp [h.l], by simp [h.al], fun w' hw' => ?_⟩;rw [List.getElem_set]
 by_cases e : w = w'
 ·rw [if_pos e]; exact hq
 ·rw [if_neg e]; exact h.r w' hw'
theorem pI {α : Type} {l : List α} {i : Nat} (h : i < l.length) : l.set i l[i] = l := List.set_getElem_self h
theorem PD : aj .ptr .eql (.pointer none) (.pointer none) = some (vb true) := rfl
theorem XG : aj .ptr .neq (.pointer none) (.pointer none) = some (vb false) := rfl
theorem aaY (b : Nat) : aj .ptr .neq (vp b) (.pointer none) = some (vb true) := rfl
abbrev mY := Option Addr × Nat × Nat
abbrev ij (x : mY) : Value := .slice x.1 x.2.1 x.2.2
abbrev b6 (x : mY) : List Value := [ij x]
instance : Enc b6 1 := ⟨fun _ => rfl, fun _ => rfl, by omega⟩
def du : List (mY × List Cl) → SP
 | [] => emp
 | q :: l => ts 4 Cl.cells (ij q.1) q.2 * du l
theorem tO : ∀ {LL : List (mY × List Cl)} {i : Nat} (h : i < LL.length), ∃ R, du LL = ts 4 Cl.cells (ij LL[i].1) LL[i].2 * R ∧ ∀ q, du (LL.set i q) = ts 4 Cl.cells (ij q.1) q.2 * R := by
 intro LL
 induction LL with
 | nil => intro i h; simp at h
 | cons q LL ih =>
  intro i h
  cases i with
  | zero => exact ⟨du LL, rfl, fun q => rfl⟩
  | succ i =>
   obtain ⟨R, e1, e2⟩ := ih (i := i) (by simpa using h);refine ⟨ts 4 Cl.cells (ij q.1) q.2 * R, ?_, fun q' => ?_⟩
   ·show ts 4 Cl.cells (ij q.1) q.2 * du LL = _
    rw [e1, bo]; rfl
   ·show ts 4 Cl.cells (ij q.1) q.2 * du (LL.set i q') = _
    rw [e2, bo]
theorem DS {LL : List (mY × List Cl)} {i : Nat} (h : i < LL.length) : Rd (du LL) (ij LL[i].1) 4 Cl.cells LL[i].2 := by
 obtain ⟨R, e1, _⟩ := tO h;rw [e1]; infer_instance
abbrev bM (LL : List (mY × List Cl)) : List mY := LL.map fun q : mY × List Cl => q.1
structure AfterR (σ σ' : aE) (k : Nat) : Prop where
 si : SI σ' k
 c : σ'.c = σ.c
 obs : σ'.obs.length = σ.obs.length
section
variable (p x : Nat) (rp : List Nat) (σ : aE) (K : Nat)
end
instance {c : Bool} {e1 : Option Value} {k : Value → OV} : Gd ((tX (yv undef) c e1 (some undef)).bind k) (k undef) := ⟨fun h => by cases c <;> exact h⟩
section
variable (p x pb tb ab : Nat) (lb : Nat) (LL : List (mY × List Cl)) (pv : Value) (picks : List Int) (blows : Bool) (most : Nat)
variable (I : aE → List Wk → Prop)
variable (x10 x11 : Value) (Z : SP)
variable (hL : LL.length = 4) (hQ : ∀ q ∈ LL, q.2.length ≤ 1000) (hm : most ≤ 4000) [hP : Rd Z pv 1 bH picks]
variable (hIs : ∀ (σ : aE) (ws : List Wk) (w : Nat) (q : Nat × Nat × Tk) (now : Int) (K : Nat), K < 60000 → SI σ K → ws.length = 4 → ws[w]? = some (some q) → Zl σ q.2.2 → I σ ws →
 I (pK σ q.2.2 now).1 (ws.set w (if (pK σ q.2.2 now).2.2 = true then none else some (q.1, q.2.1, (pK σ q.2.2 now).2.1))))
variable (hIb : ∀ (σ : aE) (ws : List Wk) (w e xk : Nat) (place : Int) (c : Cl), b5 σ.c = true → ws.length = 4 → ws[w]? = some none → I σ ws → I (σ.begin w place) (ws.set w (some (e, xk, Tk.newA σ.c w c))))
variable (hIt : blows = true → ∀ (σ σ' : aE) (ws : List Wk) (k : Nat), AfterR σ σ' k → I σ ws → I σ' ws)
include hL hm hP hIs hIb hIt
end

section
variable (G K L M I J N O : Value) (H : AH)
noncomputable def jd (p : List Nat) : Code := Code.sub (bw Tryz.f31) p
noncomputable def kz : KK := dV PP (Tryz.f31).results.toList
noncomputable def VT : KK := CQ (jd [1, 1]) kz bv kz
noncomputable def um : OV := VT (ls [G, u, L, M, I, J] 38) H
noncomputable def KP : KK := CQ (jd [1, 1, 1]) kz bv kz
noncomputable def VR : KK := dT HF KP
noncomputable def uo : OV := KP (ls [u, u, L, M, I] 39) H
noncomputable def VV : KK := CQ (jd [1, 1, 0, 1]) VR bv kz
noncomputable def uq : OV := VV (ls [G, u, L, M, I, J, N] 37) H
noncomputable def KS : KX := BX 0 VR bv
noncomputable def FZ : KX := ou HF KS
noncomputable def KQ : KK := xD (jd [1, 1, 0, 1, 4, 5]) FZ kz
noncomputable def VS : KK := dT qU KQ
noncomputable def jK : OV := KQ (ls [G, u, L, M, I, J, N] 37) H
noncomputable def VX : KK := CQ (jd [1, 1, 0, 1, 4, 5, 1]) VS FZ kz
noncomputable def ur : OV := VX (ls [G, u, L, M, I, J, N] 37) H
noncomputable def KR : KK := CQ (jd [1, 1, 0, 1, 4, 5, 1, 1]) VS FZ kz
noncomputable def KO : KK := dT qU KR
noncomputable def us : OV := KR (ls [G, u, L, M, I, J, N] 37) H
noncomputable def V1 : KX := BX 1 KO FZ
noncomputable def V2 : KX := ou qU V1
noncomputable def VZ : KK := CQ (jd [1, 1, 0, 1, 4, 5, 1, 0, 4, 1]) KO V2 kz
noncomputable def ut : OV := VZ (ls [G, u, L, M, I, J, N, O] 36) H
noncomputable def FY : KX := BX 2 KO V2
noncomputable def zc : KX := ou qU FY
noncomputable def FW : KK := xD (jd [1, 1, 0, 1, 4, 5, 1, 0, 4, 1, 4, 5]) zc kz
noncomputable def OK : KK := dT zK FW
noncomputable def iW : OV := FW (ls [G, u, L, M, I, J, N, O] 36) H
noncomputable def OL : KK := CQ (jd [1, 1, 0, 1, 4, 5, 1, 0, 4, 1, 4, 5, 1]) OK zc kz
noncomputable def rA : OV := OL (ls [G, u, L, M, I, J, N, O] 36) H
noncomputable def FX : KK := CQ (jd [1, 1, 0, 1, 4, 5, 1, 0, 4, 1, 4, 5, 1, 1]) OK zc kz
noncomputable def aaJ : KK := dT zK FX
noncomputable def l4 : OV := FX (ls [G, u, L, M, I, J, N, O] 36) H
noncomputable def aaK : KX := BX 3 aaJ zc
noncomputable def nV : OV := FY 2 (ls [G, u, L, M, I, J, N] 37) H
noncomputable def pz : OV := KS 0 (ls [u, u, L, M, I] 39) H
theorem fY : aq HF kz := rf
theorem VU : aq 17592186044354 VT := rc fY aA fY
theorem Av : aq HF KP := rc fY aA fY
theorem VW : aq qU VV := rc (cd Av) aA fY
theorem oO : ∀ i, aq HF (KS i) := rb (cd Av) aA
theorem tp : aq qU KQ := rl (cx oO) fY
theorem VY : aq qU VX := rc (cd tp) (cx oO) fY
theorem tq : aq qU KR := rc (cd tp) (cx oO) fY
theorem Aw : ∀ i, aq qU (V1 i) := rb (cd tq) (cx oO)
theorem V0 : aq zK VZ := rc (cd tq) (cx Aw) fY
theorem mw : ∀ i, aq qU (FY i) := rb (cd tq) (cx Aw)
theorem qq : aq zK FW := rl (cx mw) fY
theorem R9 : aq zK OL := rc (cd qq) (cx mw) fY
theorem DJ : aq zK FX := rc (cd qq) (cx mw) fY
theorem Sa : ∀ i, aq zK (aaK i) := rb (cd DJ) (cx mw)
theorem yr : uo L M I H =
 some (Value.tuple #[(vi 0), (vi 0), (vb false)], H) :=
 (by kernel_rfl)
theorem yx : us G L M I J N H =
 (aj .other .add N (vi 1)).bind fun a =>
 jK G L M I J a H :=
 (by kernel_rfl)
theorem wh : l4 G L M I J N O H =
 (aj .other .add O (vi 1)).bind fun a =>
 iW G L M I J N a H :=
 (by kernel_rfl)
theorem wg : rA G L M I J N O H =
 ldN 5 [.i 5 O] G H fun c =>
 ldN 5 [.i 5 N] G H fun d =>
 (FF kF [c, d] H).bind fun a =>
 (gV a.1 true J).bind fun e =>
 (gV a.1 true O).bind fun f =>
 ed a.1 true  [.i 1 f] e a.2 fun g =>
 (gV a.1 true J).bind fun j =>
 (gV a.1 true N).bind fun k =>
 ed a.1 true  [.i 1 k] j a.2 fun l =>
 (gE a.1 true a.2 (FF vP [g, l] a.2)).bind fun b =>
 (gB a.1 true (pr .not b.1)).bind fun m =>
 (aH a.1 m (vb false)).bind fun n =>
 au n
 (some (Value.tuple #[O, N, (vb true)], b.2))
 (l4 G L M I J N O b.2) :=
 (pt rfl 0 DJ (bt rfl (jd [1, 1, 0, 1, 4, 5, 1, 0, 4, 1, 4, 5, 1, 0, 4]) 3 Sa (by kernel_rfl)))
theorem sk : nV G L M I J N H = us G L M I J N H :=
 (by kernel_rfl)
theorem mQ : iW G L M I J N O H =
 (aj .other .lss O N).bind fun a =>
 au a
 (rA G L M I J N O H)
 (nV G L M I J N H) :=
 xS rfl qq (pt rfl 0 R9 (by kernel_rfl))
theorem yy : ut G L M I J N O H =
 iW G L M I J N O H :=
 (bt rfl (jd [1, 1, 0, 1, 4, 5, 1, 0, 4, 1, 4]) 2 mw (li rfl (jd [1, 1, 0, 1, 4, 5, 1, 0, 4, 1, 4, 5]) qq (by kernel_rfl)))
theorem yw : ur G L M I J N H =
 ut G L M I J N (vi 0) H :=
 (pt rfl 0 tq (bt rfl (jd [1, 1, 0, 1, 4, 5, 1, 0, 4]) 1 Aw (pt rfl 0 V0 (by kernel_rfl))))
theorem ul : pz L M I H = uo L M I H :=
 (by kernel_rfl)
theorem nW : jK G L M I J N H =
 dt J fun a =>
 (aj .other .lss N a).bind fun b =>
 au b
 (ur G L M I J N H)
 (pz L M I H) :=
 xS rfl tp (pt rfl 0 VY (by kernel_rfl))
theorem yu : uq G L M I J N H =
 jK G L M I J N H :=
 (bt rfl (jd [1, 1, 0, 1, 4]) 0 oO (li rfl (jd [1, 1, 0, 1, 4, 5]) tp (by kernel_rfl)))
theorem yq : um G L M I J H =
 uq G L M I J (vi 0) H :=
 (pt rfl 0 Av (pt rfl 0 VW (by kernel_rfl)))
noncomputable def Tg : OV := aQ PP GG FF (jd []) (ls [G] 43) H kz bv kz
theorem GO {r : Value × AH} (h : (
 (FF nr [G] H).bind fun a =>
 um G (vi 0) (vi 0) (vb false) a.1 a.2) = some r) : FF pi [G] H = some r :=
 fo (t := Tg G H) Tryz.func31 (by kernel_rfl) (Eq.trans (pt rfl 1 VU (by kernel_rfl)) h)
noncomputable def mB (p : List Nat) : Code := Code.sub (bw Tryz.f68) p
noncomputable def lh : KK := dV PP (Tryz.f68).results.toList
noncomputable def WB : KK := CQ (mB [1, 1, 1]) lh bv lh
noncomputable def rr : OV := WB (ls [G, u, L, M] 66) H
noncomputable def K9 : KK := CQ (mB [1, 1, 1, 1]) lh bv lh
noncomputable def Wz : KK := dT M7 K9
noncomputable def rt : OV := K9 (ls [u, u, L, M] 66) H
noncomputable def WD : KK := CQ (mB [1, 1, 1, 0, 1]) Wz bv lh
noncomputable def ru : OV := WD (ls [G, u, L, M, I] 65) H
noncomputable def Lc : KX := BX 0 Wz bv
noncomputable def F7 : KX := ou M7 Lc
noncomputable def La : KK := xD (mB [1, 1, 1, 0, 1, 4, 5]) F7 lh
noncomputable def WA : KK := dT wT La
noncomputable def iV : OV := La (ls [G, u, L, M, I] 65) H
noncomputable def WG : KK := CQ (mB [1, 1, 1, 0, 1, 4, 5, 1]) WA F7 lh
noncomputable def rx : OV := WG (ls [G, u, L, M, I] 65) H
noncomputable def Lb : KK := CQ (mB [1, 1, 1, 0, 1, 4, 5, 1, 1]) WA F7 lh
noncomputable def F6 : KK := dT wT Lb
noncomputable def ry : OV := Lb (ls [G, u, L, M, I] 65) H
noncomputable def WK : KX := BX 1 F6 F7
noncomputable def Ld : KX := ou wT WK
noncomputable def WI : KK := CQ (mB [1, 1, 1, 0, 1, 4, 5, 1, 0, 4, 1]) F6 Ld lh
noncomputable def rz : OV := WI (ls [G, u, L, M, I, J] 64) H
noncomputable def O7 : KK := CQ (mB [1, 1, 1, 0, 1, 4, 5, 1, 0, 4, 1, 1]) F6 Ld lh
noncomputable def hZ : OV := O7 (ls [G, u, L, M, I, J] 64) H
noncomputable def O8 : KK := CQ (mB [1, 1, 1, 0, 1, 4, 5, 1, 0, 4, 1, 1, 1]) F6 Ld lh
noncomputable def cF : OV := O8 (ls [G, u, L, M, I, J] 64) H
noncomputable def nU : OV := Lc 0 (ls [u, u, L, M] 66) H
theorem gN : aq 1180591620717411303419 lh := rf
theorem WC : aq 1180591620717411303410 WB := rc gN aA gN
theorem AB : aq M7 K9 := rc gN aA gN
theorem WE : aq wT WD := rc (cd AB) aA gN
theorem oS : ∀ i, aq M7 (Lc i) := rb (cd AB) aA
theorem tx : aq wT La := rl (cx oS) gN
theorem WH : aq wT WG := rc (cd tx) (cx oS) gN
theorem oR : aq wT Lb := rc (cd tx) (cx oS) gN
theorem tz : ∀ i, aq wT (WK i) := rb (cd oR) (cx oS)
theorem WJ : aq UM WI := rc (cd oR) (cx tz) gN
theorem Sz : aq UM O7 := rc (cd oR) (cx tz) gN
theorem SA : aq UM O8 := rc (cd oR) (cx tz) gN
theorem vX : rt L M H =
 some (M, H) :=
 (by kernel_rfl)
theorem wa : ry G L M I H =
 (aj .other .add I (vi 1)).bind fun a =>
 iV G L M a H :=
 (by kernel_rfl)
theorem uk : cF G L M I J H =
 ld [.i 5 I, .f 0] G H fun c =>
 (FF r6 [J, c] H).bind fun a =>
 sK 1 1 [(.slice none 0 0)] [(0, a.1)] a.2 fun d e =>
 (cO 1 24 M d e).bind fun b =>
 ry G L b.1 I b.2 :=
 (by kernel_rfl)
theorem uj : hZ G L M I J H =
 ld [.i 5 I, .f 1] G H fun e =>
 (aj .other .eql e (vi 1)).bind fun a =>
 (gV a false G).bind fun g =>
 (gV a false I).bind fun j =>
 ed a false  [.i 5 j, .f 1] g H fun k =>
 (gB a false (aj .other .eql k (vi 3))).bind fun l =>
 (aH a (vb true) l).bind fun b =>
 (gV b false G).bind fun m =>
 (gV b false I).bind fun n =>
 ed b false  [.i 5 n, .f 1] m H fun o =>
 (gB b false (aj .other .eql o (vi 4))).bind fun p =>
 (aH b (vb true) p).bind fun q =>
 au q
 ((FF lr [G, I] H).bind fun c =>
 (aj .other .geq c.1 (vi 0)).bind fun s =>
 au s
 (ld [.i 1 c.1] M c.2 fun t =>
 (FF nt [J, t] c.2).bind fun d =>
 cF G L M I d.1 d.2)
 (cF G L M I J c.2))
 (cF G L M I J H) :=
 (pt rfl 0 SA (by kernel_rfl))
theorem wb : rz G L M I J H =
 (FF vQ [G, I] H).bind fun a =>
 (aj .other .geq a.1 (vi 0)).bind fun b =>
 au b
 (ld [.i 1 a.1] M a.2 fun c =>
 hZ G L M I c a.2)
 (hZ G L M I J a.2) :=
 (pt rfl 0 Sz (by kernel_rfl))
theorem vZ : rx G L M I H =
 rz G L M I (.slice none 0 0) H :=
 (pt rfl 0 oR (bt rfl (mB [1, 1, 1, 0, 1, 4, 5, 1, 0, 4]) 1 tz (pt rfl 0 WJ (by kernel_rfl))))
theorem sj : nU L M H = rt L M H :=
 (by kernel_rfl)
theorem mP : iV G L M I H =
 dt G fun a =>
 (aj .other .lss I a).bind fun b =>
 au b
 (rx G L M I H)
 (nU L M H) :=
 xS rfl tx (pt rfl 0 WH (by kernel_rfl))
theorem vY : ru G L M I H =
 iV G L M I H :=
 (bt rfl (mB [1, 1, 1, 0, 1, 4]) 0 oS (li rfl (mB [1, 1, 1, 0, 1, 4, 5]) tx (by kernel_rfl)))
theorem vW : rr G L M H =
 ru G L M (vi 0) H :=
 (pt rfl 0 AB (pt rfl 0 WE (by kernel_rfl)))
noncomputable def L5 : OV := aQ PP GG FF (mB []) (ls [G] 69) H lh bv lh
theorem CO {r : Value × AH} (h : (
 (FF gX [G] H).bind fun a =>
 (pr .not a.1).bind fun b =>
 au b
 (some ((.slice none 0 0), a.2))
 (rr G (.slice none 0 0) (.slice none 0 0) a.2)) = some r) : FF nr [G] H = some r :=
 fo (t := L5 G H) Tryz.func68 (by kernel_rfl) (Eq.trans (pt rfl 2 WC (by kernel_rfl)) h)
theorem yp {r : Value × AH} (h : (
 aS (Value.cells G).toList H fun c m =>
 aS (Value.cells K).toList m fun d a =>
 ld [.f 1] c a fun n =>
 (aj .other .geq n (vi 5)).bind fun i =>
 ed i false  [.f 1] d a fun o =>
 (gB i false (aj .other .geq o (vi 5))).bind fun p =>
 (aH i (vb true) p).bind fun q =>
 ld [.f 0] c a fun s =>
 ld [.f 0] d a fun t =>
 (aj .other .neq s t).bind fun e =>
 mC e true  3 [.f 2] c a fun w =>
 mC e true  3 [.f 2] d a fun y =>
 (gB e true (aj (.flat 3) .eql w y)).bind fun z =>
 (aH e z (vb false)).bind fun k =>
 (gV k true q).bind fun A =>
 (aH k A (vb false)).bind fun b =>
 (gB b true (ax 5 c a)).bind fun B =>
 (gE b true a (FF fp [B] a)).bind fun g =>
 (gV b true g.1).bind fun j =>
 (gB j false (ax 5 d g.2)).bind fun C =>
 (gE j false g.2 (FF fp [C] g.2)).bind fun l =>
 (gB b true (aH j (vb true) l.1)).bind fun D =>
 (aH b D (vb false)).bind fun E =>
 some (E, l.2)) = some r) : FF kF [G, K] H = some r :=
 fo Tryz.func69 (by kernel_rfl) h
noncomputable def qY (p : List Nat) : Code := Code.sub (bw Tryz.f70) p
noncomputable def oT : KK := dV PP (Tryz.f70).results.toList
noncomputable def WN : KK := CQ (qY [1]) oT bv oT
noncomputable def Bn : OV := WN (ls [G, K, u, u, I] 17) H
noncomputable def Le : KK := CQ (qY [1, 1]) oT bv oT
noncomputable def WL : KK := dT 4194287 Le
noncomputable def Bo : OV := Le (ls [u, u, u, u, I] 17) H
noncomputable def WP : KK := CQ (qY [1, 0, 1]) WL bv oT
noncomputable def Bp : OV := WP (ls [G, K, u, u, I, J] 16) H
noncomputable def Li : KX := BX 0 WL bv
noncomputable def F8 : KX := ou 4194287 Li
noncomputable def Lg : KK := xD (qY [1, 0, 1, 4, 5]) F8 oT
noncomputable def WM : KK := dT 4194252 Lg
noncomputable def nC : OV := Lg (ls [G, K, u, u, I, J] 16) H
noncomputable def WR : KK := CQ (qY [1, 0, 1, 4, 5, 1]) WM F8 oT
noncomputable def Bq : OV := WR (ls [G, K, u, u, I, J] 16) H
noncomputable def Lh : KK := CQ (qY [1, 0, 1, 4, 5, 1, 1]) WM F8 oT
noncomputable def adK : KK := dT 4194252 Lh
noncomputable def Br : OV := Lh (ls [G, K, u, u, I, J] 16) H
noncomputable def adL : KX := BX 1 adK F8
noncomputable def uu : OV := Li 0 (ls [u, u, u, u, I] 17) H
theorem lj : aq 4194287 oT := rf
theorem WO : aq 4194284 WN := rc lj aA lj
theorem AC : aq 4194287 Le := rc lj aA lj
theorem WQ : aq 4194252 WP := rc (cd AC) aA lj
theorem oU : ∀ i, aq 4194287 (Li i) := rb (cd AC) aA
theorem tA : aq 4194252 Lg := rl (cx oU) lj
theorem WS : aq 4194252 WR := rc (cd tA) (cx oU) lj
theorem Iq : aq 4194252 Lh := rc (cd tA) (cx oU) lj
theorem WT : ∀ i, aq 4194252 (adL i) := rb (cd Iq) (cx oU)
theorem CR : Bo I H =
 some ((vb true), H) :=
 (by kernel_rfl)
theorem CU : Br G K I J H =
 (aj .other .add J (vi 1)).bind fun a =>
 nC G K I a H :=
 (by kernel_rfl)
theorem CT : Bq G K I J H =
 (FF ph [G, J] H).bind fun b =>
 (FF ph [K, J] b.2).bind fun a =>
 (aj .other .gtr b.1 a.1).bind fun c =>
 au c
 (some ((vb false), a.2))
 (Br G K I J a.2) :=
 (pt rfl 0 Iq (bt rfl (qY [1, 0, 1, 4, 5, 1, 0, 4]) 1 WT (by kernel_rfl)))
theorem yz : uu I H = Bo I H :=
 (by kernel_rfl)
theorem rC : nC G K I J H =
 dt G fun a =>
 dt K fun b =>
 (eN [a, b]).bind fun c =>
 (aj .other .lss J c).bind fun d =>
 au d
 (Bq G K I J H)
 (uu I H) :=
 xS rfl tA (pt rfl 0 WS (by kernel_rfl))
theorem CS : Bp G K I J H =
 nC G K I J H :=
 (bt rfl (qY [1, 0, 1, 4]) 0 oU (li rfl (qY [1, 0, 1, 4, 5]) tA (by kernel_rfl)))
theorem CP : Bn G K I H =
 Bp G K I (vi 0) H :=
 (pt rfl 0 AC (pt rfl 0 WQ (by kernel_rfl)))
noncomputable def aa4 : OV := aQ PP GG FF (qY []) (ls [G, K] 20) H oT bv oT
theorem L6 {r : Value × AH} (h : (
 Bn G K (vb false) H) = some r) : FF vP [G, K] H = some r :=
 fo (t := aa4 G K H) Tryz.func70 (by kernel_rfl) (Eq.trans (pt rfl 0 WO (by kernel_rfl)) h)
noncomputable def lK (p : List Nat) : Code := Code.sub (bw Tryz.f133) p
noncomputable def kf : KK := dV PP (Tryz.f133).results.toList
noncomputable def NF : KK := CQ (lK [1]) kf bv kf
noncomputable def kO : OV := NF (ls [G, u, L] 37) H
noncomputable def EW : KK := CQ (lK [1, 1]) kf bv kf
noncomputable def ND : KK := dT HH EW
noncomputable def kP : OV := EW (ls [u, u, L] 37) H
noncomputable def NG : KK := CQ (lK [1, 0, 1]) ND bv kf
noncomputable def kQ : OV := NG (ls [G, u, L, M] 36) H
noncomputable def EZ : KX := BX 0 ND bv
noncomputable def yZ : KX := ou HH EZ
noncomputable def EX : KK := xD (lK [1, 0, 1, 4, 5]) yZ kf
noncomputable def NE : KK := dT zM EX
noncomputable def dZ : OV := EX (ls [G, u, L, M] 36) H
noncomputable def NH : KK := CQ (lK [1, 0, 1, 4, 5, 1]) NE yZ kf
noncomputable def kR : OV := NH (ls [G, u, L, M] 36) H
noncomputable def EY : KK := CQ (lK [1, 0, 1, 4, 5, 1, 1]) NE yZ kf
noncomputable def ZP : KK := dT zM EY
noncomputable def kS : OV := EY (ls [G, u, L, M] 36) H
noncomputable def ZQ : KX := BX 1 ZP yZ
noncomputable def jk : OV := EZ 0 (ls [u, u, L] 37) H
theorem i5 : aq HH kf := rf
theorem Q8 : aq 1099511627770 NF := rc i5 aA i5
theorem vh : aq HH EW := rc i5 aA i5
theorem Q9 : aq zM NG := rc (cd vh) aA i5
theorem mg : ∀ i, aq HH (EZ i) := rb (cd vh) aA
theorem qd : aq zM EX := rl (cx mg) i5
theorem Ra : aq zM NH := rc (cd qd) (cx mg) i5
theorem Ds : aq zM EY := rc (cd qd) (cx mg) i5
theorem Rb : ∀ i, aq zM (ZQ i) := rb (cd Ds) (cx mg)
theorem og : kP L H =
 some ((vb true), H) :=
 (by kernel_rfl)
theorem oo : kS G L M H =
 (aj .other .add M (vi 1)).bind fun a =>
 dZ G L a H :=
 (by kernel_rfl)
theorem ol : kR G L M H =
 ld [.i 5 M, .f 0] G H fun d =>
 (aj .other .lss d (vi 0)).bind fun a =>
 (gV a false G).bind fun e =>
 (gV a false M).bind fun g =>
 ed a false  [.i 5 g, .f 0] e H fun j =>
 (gB a false (aj .other .gtr j (vi 63))).bind fun k =>
 (aH a (vb true) k).bind fun b =>
 (gV b false G).bind fun l =>
 (gV b false M).bind fun m =>
 ed b false  [.i 5 m, .f 1] l H fun n =>
 (gB b false (aj .other .lss n (vi 1))).bind fun o =>
 (aH b (vb true) o).bind fun c =>
 (gV c false G).bind fun p =>
 (gV c false M).bind fun q =>
 ed c false  [.i 5 q, .f 1] p H fun s =>
 (gB c false (aj .other .gtr s (vi 6))).bind fun t =>
 (aH c (vb true) t).bind fun w =>
 au w
 (some ((vb false), H))
 (kS G L M H) :=
 (pt rfl 0 Ds (bt rfl (lK [1, 0, 1, 4, 5, 1, 0, 4]) 1 Rb (by kernel_rfl)))
theorem mR : jk L H = kP L H :=
 (by kernel_rfl)
theorem im : dZ G L M H =
 dt G fun a =>
 (aj .other .lss M a).bind fun b =>
 au b
 (kR G L M H)
 (jk L H) :=
 xS rfl qd (pt rfl 0 Ra (by kernel_rfl))
theorem oh : kQ G L M H =
 dZ G L M H :=
 (bt rfl (lK [1, 0, 1, 4]) 0 mg (li rfl (lK [1, 0, 1, 4, 5]) qd (by kernel_rfl)))
theorem od : kO G L H =
 kQ G L (vi 0) H :=
 (pt rfl 0 vh (pt rfl 0 Q9 (by kernel_rfl)))
noncomputable def yA : OV := aQ PP GG FF (lK []) (ls [G] 39) H kf bv kf
theorem sm {r : Value × AH} (h : (
 kO G (vb false) H) = some r) : FF gX [G] H = some r :=
 fo (t := yA G H) Tryz.func133 (by kernel_rfl) (Eq.trans (pt rfl 0 Q8 (by kernel_rfl)) h)
noncomputable def lL (p : List Nat) : Code := Code.sub (bw Tryz.f134) p
noncomputable def kg : KK := dV PP (Tryz.f134).results.toList
noncomputable def NK : KK := CQ (lL [1]) kg bv kg
noncomputable def Bv : OV := NK (ls [G, K, u, u, I] 19) H
noncomputable def E0 : KK := CQ (lL [1, 1]) kg bv kg
noncomputable def NI : KK := dT 16777199 E0
noncomputable def Bw : OV := E0 (ls [u, u, u, u, I] 19) H
noncomputable def NL : KK := CQ (lL [1, 0, 1]) NI bv kg
noncomputable def Bx : OV := NL (ls [G, K, u, u, I, J] 18) H
noncomputable def E5 : KX := BX 0 NI bv
noncomputable def y3 : KX := ou 16777199 E5
noncomputable def E3 : KK := xD (lL [1, 0, 1, 4, 5]) y3 kg
noncomputable def NJ : KK := dT 16777164 E3
noncomputable def nE : OV := E3 (ls [G, K, u, u, I, J] 18) H
noncomputable def NM : KK := CQ (lL [1, 0, 1, 4, 5, 1]) NJ y3 kg
noncomputable def By : OV := NM (ls [G, K, u, u, I, J] 18) H
noncomputable def E4 : KK := CQ (lL [1, 0, 1, 4, 5, 1, 1]) NJ y3 kg
noncomputable def ZR : KK := dT 16777164 E4
noncomputable def Bz : OV := E4 (ls [G, K, u, u, I, J] 18) H
noncomputable def ZS : KX := BX 1 ZR y3
noncomputable def uA : OV := E5 0 (ls [u, u, u, u, I] 19) H
theorem i6 : aq 16777199 kg := rf
theorem Rc : aq 16777196 NK := rc i6 aA i6
theorem vj : aq 16777199 E0 := rc i6 aA i6
theorem Re : aq 16777164 NL := rc (cd vj) aA i6
theorem mh : ∀ i, aq 16777199 (E5 i) := rb (cd vj) aA
theorem qe : aq 16777164 E3 := rl (cx mh) i6
theorem Rf : aq 16777164 NM := rc (cd qe) (cx mh) i6
theorem Dt : aq 16777164 E4 := rc (cd qe) (cx mh) i6
theorem Rg : ∀ i, aq 16777164 (ZS i) := rb (cd Dt) (cx mh)
theorem CW : Bw I H =
 some ((vi (-1)), H) :=
 (by kernel_rfl)
theorem CZ : Bz G K I J H =
 (aj .other .sub J (vi 1)).bind fun a =>
 nE G K I a H :=
 (by kernel_rfl)
theorem CY : By G K I J H =
 ld [.i 5 J, .f 0] G H fun a =>
 ld [.i 5 K, .f 0] G H fun b =>
 (aj .other .eql a b).bind fun c =>
 au c
 (some (J, H))
 (Bz G K I J H) :=
 (pt rfl 0 Dt (bt rfl (lL [1, 0, 1, 4, 5, 1, 0, 4]) 1 Rg (by kernel_rfl)))
theorem yG : uA I H = Bw I H :=
 (by kernel_rfl)
theorem rE : nE G K I J H =
 (aj .other .geq J (vi 0)).bind fun a =>
 au a
 (By G K I J H)
 (uA I H) :=
 xS rfl qe (pt rfl 0 Rf (by kernel_rfl))
theorem CX : Bx G K I J H =
 nE G K I J H :=
 (bt rfl (lL [1, 0, 1, 4]) 0 mh (li rfl (lL [1, 0, 1, 4, 5]) qe (by kernel_rfl)))
theorem CV : Bv G K I H =
 (aj .other .sub K (vi 1)).bind fun a =>
 Bx G K I a H :=
 (pt rfl 0 vj (pt rfl 0 Re (by kernel_rfl)))
noncomputable def aa5 : OV := aQ PP GG FF (lL []) (ls [G, K] 22) H kg bv kg
theorem L7 {r : Value × AH} (h : (
 Bv G K (vi 0) H) = some r) : FF vQ [G, K] H = some r :=
 fo (t := aa5 G K H) Tryz.func134 (by kernel_rfl) (Eq.trans (pt rfl 0 Rc (by kernel_rfl)) h)
noncomputable def lM (p : List Nat) : Code := Code.sub (bw Tryz.f135) p
noncomputable def kj : KK := dV PP (Tryz.f135).results.toList
noncomputable def NP : KK := CQ (lM [1]) kj bv kj
noncomputable def uw : OV := NP (ls [G, K, u, u, I] 35) H
noncomputable def E6 : KK := CQ (lM [1, 1]) kj bv kj
noncomputable def NN : KK := dT HI E6
noncomputable def ux : OV := E6 (ls [u, u, u, u, I] 35) H
noncomputable def NQ : KK := CQ (lM [1, 0, 1]) NN bv kj
noncomputable def uy : OV := NQ (ls [G, K, u, u, I, J] 34) H
noncomputable def E9 : KX := BX 0 NN bv
noncomputable def y4 : KX := ou HI E9
noncomputable def E7 : KK := xD (lM [1, 0, 1, 4, 5]) y4 kj
noncomputable def NO : KK := dT zN E7
noncomputable def jL : OV := E7 (ls [G, K, u, u, I, J] 34) H
noncomputable def NR : KK := CQ (lM [1, 0, 1, 4, 5, 1]) NO y4 kj
noncomputable def uz : OV := NR (ls [G, K, u, u, I, J] 34) H
noncomputable def E8 : KK := CQ (lM [1, 0, 1, 4, 5, 1, 1]) NO y4 kj
noncomputable def ZT : KK := dT zN E8
noncomputable def nD : OV := E8 (ls [G, K, u, u, I, J] 34) H
noncomputable def ZU : KX := BX 1 ZT y4
noncomputable def pC : OV := E9 0 (ls [u, u, u, u, I] 35) H
theorem i7 : aq HI kj := rf
theorem Rh : aq 1099511627756 NP := rc i7 aA i7
theorem vk : aq HI E6 := rc i7 aA i7
theorem Ri : aq zN NQ := rc (cd vk) aA i7
theorem ml : ∀ i, aq HI (E9 i) := rb (cd vk) aA
theorem qf : aq zN E7 := rl (cx ml) i7
theorem Rj : aq zN NR := rc (cd qf) (cx ml) i7
theorem Du : aq zN E8 := rc (cd qf) (cx ml) i7
theorem Rk : ∀ i, aq zN (ZU i) := rb (cd Du) (cx ml)
theorem yC : ux I H =
 some ((vi (-1)), H) :=
 (by kernel_rfl)
theorem yF : nD G K I J H =
 (aj .other .sub J (vi 1)).bind fun a =>
 jL G K I a H :=
 (by kernel_rfl)
theorem yE : uz G K I J H =
 ldN 3 [.i 5 J, .f 2] G H fun c =>
 ldN 3 [.i 5 K, .f 2] G H fun d =>
 (aj (.flat 3) .eql c d).bind fun a =>
 (gV a true G).bind fun e =>
 (gV a true J).bind fun g =>
 ed a true  [.i 5 g, .f 1] e H fun j =>
 (gB a true (aj .other .eql j (vi 2))).bind fun k =>
 (gV a true k).bind fun b =>
 (gV b false G).bind fun l =>
 (gV b false J).bind fun m =>
 ed b false  [.i 5 m, .f 1] l H fun n =>
 (gB b false (aj .other .eql n (vi 3))).bind fun o =>
 (gB a true (aH b (vb true) o)).bind fun p =>
 (aH a p (vb false)).bind fun q =>
 au q
 (some (J, H))
 (nD G K I J H) :=
 (pt rfl 0 Du (bt rfl (lM [1, 0, 1, 4, 5, 1, 0, 4]) 1 Rk (by kernel_rfl)))
theorem uv : pC I H = ux I H :=
 (by kernel_rfl)
theorem nX : jL G K I J H =
 (aj .other .geq J (vi 0)).bind fun a =>
 au a
 (uz G K I J H)
 (pC I H) :=
 xS rfl qf (pt rfl 0 Rj (by kernel_rfl))
theorem yD : uy G K I J H =
 jL G K I J H :=
 (bt rfl (lM [1, 0, 1, 4]) 0 ml (li rfl (lM [1, 0, 1, 4, 5]) qf (by kernel_rfl)))
theorem yB : uw G K I H =
 (aj .other .sub K (vi 1)).bind fun a =>
 uy G K I a H :=
 (pt rfl 0 vk (pt rfl 0 Ri (by kernel_rfl)))
noncomputable def Th : OV := aQ PP GG FF (lM []) (ls [G, K] 38) H kj bv kj
theorem GP {r : Value × AH} (h : (
 uw G K (vi 0) H) = some r) : FF lr [G, K] H = some r :=
 fo (t := Th G K H) Tryz.func135 (by kernel_rfl) (Eq.trans (pt rfl 0 Rh (by kernel_rfl)) h)
noncomputable def km (p : List Nat) : Code := Code.sub (bw Tryz.f136) p
noncomputable def ko : KK := dV PP (Tryz.f136).results.toList
noncomputable def NV : KK := CQ (km [1, 1]) ko bv ko
noncomputable def xh : OV := NV (ls [G, K, u, u, I, J] 49) H
noncomputable def Fa : KK := CQ (km [1, 1, 1]) ko bv ko
noncomputable def NS : KK := dT Na Fa
noncomputable def xi : OV := Fa (ls [u, u, u, u, I, J] 49) H
noncomputable def NW : KK := CQ (km [1, 1, 0, 1]) NS bv ko
noncomputable def xj : OV := NW (ls [G, K, u, u, I, J, N] 48) H
noncomputable def Fd : KX := BX 0 NS bv
noncomputable def y5 : KX := ou Na Fd
noncomputable def Fb : KK := xD (km [1, 1, 0, 1, 4, 5]) y5 ko
noncomputable def NT : KK := dT sS Fb
noncomputable def lB : OV := Fb (ls [G, K, u, u, I, J, N] 48) H
noncomputable def NX : KK := CQ (km [1, 1, 0, 1, 4, 5, 1]) NT y5 ko
noncomputable def xm : OV := NX (ls [G, K, u, u, I, J, N] 48) H
noncomputable def Fc : KK := CQ (km [1, 1, 0, 1, 4, 5, 1, 1]) NT y5 ko
noncomputable def NU : KK := dT sS Fc
noncomputable def jj : OV := Fc (ls [G, K, u, u, I, J, N] 48) H
noncomputable def NY : KX := BX 1 NU y5
noncomputable def ZW : KX := ou sS NY
noncomputable def ZV : KX := BX 2 NU ZW
noncomputable def rB : OV := Fd 0 (ls [u, u, u, u, I, J] 49) H
theorem i8 : aq 36028797018963951 ko := rf
theorem Rl : aq 36028797018963916 NV := rc i8 aA i8
theorem vl : aq Na Fa := rc i8 aA i8
theorem Rm : aq sS NW := rc (cd vl) aA i8
theorem mm : ∀ i, aq Na (Fd i) := rb (cd vl) aA
theorem qg : aq sS Fb := rl (cx mm) i8
theorem Rn : aq sS NX := rc (cd qg) (cx mm) i8
theorem vm : aq sS Fc := rc (cd qg) (cx mm) i8
theorem Dv : ∀ i, aq sS (NY i) := rb (cd vm) (cx mm)
theorem Ro : ∀ i, aq sS (ZV i) := rb (cd vm) (cx Dv)
theorem Bj : xi I J H =
 some (J, H) :=
 (by kernel_rfl)
theorem Bm : jj G K I J N H =
 (aj .other .add N (vi 1)).bind fun a =>
 lB G K I J a H :=
 (by kernel_rfl)
theorem Bl : xm G K I J N H =
 dt G fun d =>
 (aj .other .geq N d).bind fun e =>
 au e
 (ld [.i 1 N] K H fun f =>
 (eN [f, (vi 0)]).bind fun g =>
 sK 1 1 [(vi 0)] [(0, g)] H fun j k =>
 (cO 1 8 J j k).bind fun a =>
 jj G K I a.1 N a.2)
 (dt K fun l =>
 (aj .other .geq N l).bind fun m =>
 au m
 (ld [.i 1 N] G H fun n =>
 (eN [n, (vi 0)]).bind fun o =>
 sK 1 1 [(vi 0)] [(0, o)] H fun p q =>
 (cO 1 8 J p q).bind fun b =>
 jj G K I b.1 N b.2)
 (ld [.i 1 N] G H fun s =>
 ld [.i 1 N] K H fun t =>
 (eN [s, t]).bind fun w =>
 sK 1 1 [(vi 0)] [(0, w)] H fun y z =>
 (cO 1 8 J y z).bind fun c =>
 jj G K I c.1 N c.2)) :=
 (pt rfl 0 vm (bt rfl (km [1, 1, 0, 1, 4, 5, 1, 0, 4]) 1 Dv (bt rfl (km [1, 1, 0, 1, 4, 5, 1, 0, 4, 4]) 2 Ro (by kernel_rfl))))
theorem wj : rB I J H = xi I J H :=
 (by kernel_rfl)
theorem pA : lB G K I J N H =
 dt G fun a =>
 dt K fun b =>
 (eN [a, b]).bind fun c =>
 (aj .other .lss N c).bind fun d =>
 au d
 (xm G K I J N H)
 (rB I J H) :=
 xS rfl qg (pt rfl 0 Rn (by kernel_rfl))
theorem Bk : xj G K I J N H =
 lB G K I J N H :=
 (bt rfl (km [1, 1, 0, 1, 4]) 0 mm (li rfl (km [1, 1, 0, 1, 4, 5]) qg (by kernel_rfl)))
theorem Bi : xh G K I J H =
 xj G K I J (vi 0) H :=
 (pt rfl 0 vl (pt rfl 0 Rm (by kernel_rfl)))
noncomputable def XZ : OV := aQ PP GG FF (km []) (ls [G, K] 53) H ko bv ko
theorem I0 {r : Value × AH} (h : (
 xh G K (.slice none 0 0) (.slice none 0 0) H) = some r) : FF nt [G, K] H = some r :=
 fo (t := XZ G K H) Tryz.func136 (by kernel_rfl) (Eq.trans (pt rfl 1 Rl (by kernel_rfl)) h)
noncomputable def oL (p : List Nat) : Code := Code.sub (bw Tryz.f137) p
noncomputable def na : KK := dV PP (Tryz.f137).results.toList
noncomputable def N0 : KK := CQ (oL [1, 1, 1]) na bv na
noncomputable def xn : OV := N0 (ls [u, K, u, u, I, J] 23) H
noncomputable def Fe : KK := CQ (oL [1, 1, 1, 1]) na bv na
noncomputable def ZX : KK := dT sT Fe
noncomputable def xo : OV := Fe (ls [u, K, u, u, I, J] 23) H
noncomputable def Fg : KX := BX 0 ZX bv
noncomputable def Fh : KX := ou sT Fg
noncomputable def Ff : KK := xD (oL [1, 1, 1, 0, 4, 5]) Fh na
noncomputable def NZ : KK := dT sT Ff
noncomputable def lC : OV := Ff (ls [u, K, u, u, I, J] 23) H
noncomputable def N1 : KK := CQ (oL [1, 1, 1, 0, 4, 5, 1]) NZ Fh na
noncomputable def xp : OV := N1 (ls [u, K, u, u, I, J] 23) H
noncomputable def ZY : KX := BX 1 NZ Fh
noncomputable def rD : OV := Fg 0 (ls [u, K, u, u, I, J] 23) H
theorem mn : aq 536870895 na := rf
theorem Rp : aq sT N0 := rc mn aA mn
theorem Dw : aq sT Fe := rc mn aA mn
theorem qi : ∀ i, aq sT (Fg i) := rb (cd Dw) aA
theorem qh : aq sT Ff := rl (cx qi) mn
theorem Rq : aq sT N1 := rc (cd qh) (cx qi) mn
theorem Rs : ∀ i, aq sT (ZY i) := rb (cd qh) (cx qi)
theorem Bt : xo K I J H =
 ld [.i 1 K] J H fun a =>
 (aj .other .add a (vi 1)).bind fun b =>
 st 1 [.i 1 K] J b H fun c =>
 some (J, c) :=
 (by kernel_rfl)
theorem Bu : xp K I J H =
 sK 1 1 [(vi 0)] [(0, (vi 0))] H fun b c =>
 (cO 1 8 J b c).bind fun a =>
 lC K I a.1 a.2 :=
 (bt rfl (oL [1, 1, 1, 0, 4, 5, 1, 4]) 1 Rs (by kernel_rfl))
theorem wm : rD K I J H = xo K I J H :=
 (by kernel_rfl)
theorem pB : lC K I J H =
 dt J fun a =>
 (aj .other .leq a K).bind fun b =>
 au b
 (xp K I J H)
 (rD K I J H) :=
 xS rfl qh (pt rfl 0 Rq (by kernel_rfl))
theorem Bs : xn K I J H =
 lC K I J H :=
 (pt rfl 0 Dw (bt rfl (oL [1, 1, 1, 0, 4]) 0 qi (li rfl (oL [1, 1, 1, 0, 4, 5]) qh (by kernel_rfl))))
noncomputable def X0 : OV := aQ PP GG FF (oL []) (ls [G, K] 27) H na bv na
theorem I1 {r : Value × AH} (h : (
 (cO 1 8 (.slice none 0 0) G H).bind fun a =>
 (aj .other .lss K (vi 0)).bind fun b =>
 (gV b false K).bind fun c =>
 (gB b false (aj .other .gtr c (vi 63))).bind fun d =>
 (aH b (vb true) d).bind fun e =>
 au e
 (some (a.1, a.2))
 (xn K (.slice none 0 0) a.1 a.2)) = some r) : FF r6 [G, K] H = some r :=
 fo (t := X0 G K H) Tryz.func137 (by kernel_rfl) (Eq.trans (pt rfl 2 Rp (by kernel_rfl)) h)
theorem C0 {r : Value × AH} (h : (
 aS (Value.cells G).toList H fun b a =>
 ld [.f 1] b a fun e =>
 (aj .other .eql e (vi 2)).bind fun c =>
 ed c false  [.f 1] b a fun g =>
 (gB c false (aj .other .eql g (vi 3))).bind fun i =>
 (aH c (vb true) i).bind fun d =>
 ed d false  [.f 1] b a fun j =>
 (gB d false (aj .other .eql j (vi 6))).bind fun k =>
 (aH d (vb true) k).bind fun l =>
 some (l, a)) = some r) : FF fp [G] H = some r :=
 fo Tryz.func138 (by kernel_rfl) h
theorem Tf {r : Value × AH} (h : (
 (aj .other .lss K (vi 0)).bind fun a =>
 (gV a false K).bind fun b =>
 (gV a false G).bind fun c =>
 (tX (yv a) false (dt c some) (some undef)).bind fun d =>
 (gB a false (aj .other .geq b d)).bind fun e =>
 (aH a (vb true) e).bind fun f =>
 au f
 (some ((vi 0), H))
 (ld [.i 1 K] G H fun g =>
 some (g, H))) = some r) : FF ph [G, K] H = some r :=
 fo Tryz.func139 (by kernel_rfl) h
end
def gH (c : List Int) (i : Nat) : Int := (c[i]?).getD 0
def Hr (a b : List Int) : Prop := ∀ i, gH a i ≤ gH b i
theorem Hr.refl (a : List Int) : Hr a a := fun _ => Int.le_refl _
theorem Hr.trans {a b c : List Int} (h : Hr a b) (k : Hr b c) : Hr a c := fun i => Int.le_trans (h i) (k i)
structure l7 (c : List Int) (n : Nat) : Prop where
 len : c.length ≤ 64
 v : ∀ x ∈ c, 0 ≤ x ∧ x ≤ n
theorem l7.mono {c : List Int} {n m : Nat} (h : l7 c n) (k : n ≤ m) : l7 c m := ⟨h.len, fun x hx => ⟨(h.v x hx).1, by have := (h.v x hx).2; omega⟩⟩
theorem l7.nil (n : Nat) : l7 [] n := ⟨Nat.zero_le _, fun x h => by cases h⟩
theorem l7.at {c : List Int} {n : Nat} (h : l7 c n) (i : Nat) : 0 ≤ gH c i ∧ gH c i ≤ n := by
 unfold gH
 cases e : c[i]? with
 | none => exact ⟨Int.le_refl _, by show (0 : Int) ≤ _; omega⟩
 | some x => exact h.v x (List.mem_of_getElem? e)
theorem qa {c : List Int} {i : Nat} (h : i < c.length) : gH c i = c[i] := by unfold gH; rw [bu h]; rfl
theorem p9 {c : List Int} {i : Nat} (h : c.length ≤ i) : gH c i = 0 := by unfold gH; rw [List.getElem?_eq_none h]; rfl
def Ul (a b : List Int) : List Int := (List.range (max a.length b.length)).map fun i => max (gH a i) (gH b i)
theorem ac8 {a b : List Int} (ha : ∀ i, 0 ≤ gH a i) (hb : ∀ i, 0 ≤ gH b i) (i : Nat) : gH (Ul a b) i = max (gH a i) (gH b i) := by
 unfold Ul
 rcases Nat.lt_or_ge i (max a.length b.length) with h | h
 ·rw [qa (by simpa using h), List.getElem_map, List.getElem_range]
 ·rw [p9 (by simpa using h), p9 (c := a) (by omega), p9 (c := b) (by omega)]
  rfl
section
variable {P : SP} {H : AH} {Q : Value → AH → Prop}
theorem aa8 (P : SP) : Rd P (.slice none 0 0) 1 bH ([] : List Int) := ⟨fun {H} _ => ⟨(Nat.zero_mul 1).symm, .inl ⟨none, 0, rfl, rfl, fun _ => rfl, fun x hx => by cases hx⟩⟩⟩
theorem UL {s : Value} {c : List Int} (i : Nat) (h : ac P H) [r : Rd P s 1 bH c] {k : Value × AH → OV} (hk : wp (k (vi (gH c i), H)) Q) : wp ((FF ph [s, vi (i : Int)] H).bind k) Q := by
 have law : wp (FF ph [s, vi (i : Int)] H) fun v' H' => v' = vi (gH c i) ∧ H' = H := by
  refine aZ (fun r => Tf _ _ H) ?_;refine aa (bF (by omega)) ?_;refine gs ?_;refine fC (s := s) (l := c) h ?_;refine gs ?_
  by_cases hi : i < c.length
  ·refine aa (fT (by omega)) ?_
   refine gs ?_;refine da (s := s) (l := c) (v := vi c[i]) h hi rfl ?_;exact am ⟨by rw [qa hi], rfl⟩
  ·refine aa (jf (by omega)) ?_
   refine gs ?_;exact am ⟨by rw [p9 (by omega)], rfl⟩
 obtain ⟨v, H', e, rfl, rfl⟩ := law;rw [e];exact hk
end
theorem aaS {P : SP} {sa sb : Value} {a b : List Int} [ra : Rd P sa 1 bH a] [rb : Rd P sb 1 bH b] (hab : Hr a b) (hla : a.length ≤ 64) (hlb : b.length ≤ 64) : Sp vP [sa, sb] P (fun _ : Unit => vb true) (fun _ => P) := by
 refine aU (L6 _ _) fun R H h => ?_;refine ag (CP ..) ?_;refine ag (CS ..) ?_
 have loop : ∀ (d i : Nat), i + d = max a.length b.length → wp (nC sa sb (vb false) (vi (i : Int)) H) fun v' H' => ∃ _x : Unit, v' = vb true ∧ ac (P * R) H' := by
  intro d
  induction d with
  | zero =>
   intro i hi;refine ag (rC ..) ?_;refine cw (s := sa) (l := a) h ?_;refine cw (s := sb) (l := b) h ?_;refine aa (eZ) ?_;refine aa (bF (by omega)) ?_;refine gs ?_;refine ag (yz ..) ?_;refine ag (CR ..) ?_;exact am ⟨(), rfl, h⟩
  | succ d ih =>
   intro i hi;refine ag (rC ..) ?_;refine cw (s := sa) (l := a) h ?_;refine cw (s := sb) (l := b) h ?_;refine aa (eZ) ?_;refine aa (cy (by omega)) ?_;refine gs ?_;refine ag (CT ..) ?_;refine UL i h ?_;refine UL i h ?_;refine aa (gO (by have := hab i; omega)) ?_;refine gs ?_;refine ag (CU ..) ?_;refine aa (aJ (by omega) (by omega)) ?_;rw [show ((i : Nat) : Int) + 1 = ((i + 1 : Nat) : Int) from by omega];exact ih (i + 1) (by omega)
 exact loop (max a.length b.length) 0 (by omega)
theorem Xc {P : SP} {sa sb : Value} {a b : List Int} [ra : Rd P sa 1 bH a] [rb : Rd P sb 1 bH b] {n : Nat} (ha : l7 a n) (hb : l7 b n) (hn : n < 1000000) :
 Sp nt [sa, sb] P (fun v : Value => v) (fun v => ts 1 bH v (Ul a b) * P) := by
 refine aU (I0 _ _) fun R H h => ?_;refine ag (Bi ..) ?_;refine ag (Bk ..) ?_;have hla := ha.len;have hlb := hb.len;have full : (List.range (max a.length b.length)).take (max a.length b.length) = List.range (max a.length b.length) := List.take_of_length_le (by simp);have loop : ∀ (d i : Nat) (s : Value) (H : AH), i + d = max a.length b.length → ac (ts 1 bH s (((List.range (max a.length b.length)).take i).map fun i => max (gH a i) (gH b i)) * (P * R)) H →
  wp (lB sa sb (.slice none 0 0) s (vi (i : Int)) H) fun v' H' => ∃ x : Value, v' = x ∧ ac (ts 1 bH x (Ul a b) * P * R) H' := by
  intro d
  induction d with
  | zero =>
   intro i s H hi h;refine ag (pA ..) ?_;refine cw (s := sa) (l := a) h ?_;refine cw (s := sb) (l := b) h ?_;refine aa (eZ) ?_;refine aa (bF (by omega)) ?_;refine gs ?_;refine ag (wj ..) ?_;refine ag (Bj ..) ?_;rw [show i = max a.length b.length from by omega, full] at h;exact am ⟨s, rfl, by rw [ak]; exact h⟩
  | succ d ih =>
   intro i s H hi h
   have hir : i < (List.range (max a.length b.length)).length := by simp; omega
   have hnx : ∀ v : Int, v = max (gH a i) (gH b i) → wp ((sK 1 1 [(vi 0)] [(0, vi v)] H fun v14 H15 => (cO 1 8 s v14 H15).bind fun r16 => jj sa sb (.slice none 0 0) r16.1 (vi (i : Int)) r16.2)) fun v' H' => ∃ x : Value, v' = x ∧ ac (ts 1 bH x (Ul a b) * P * R) H' := by
    intro v hv;refine Ht h fun rb H2 h2 => ?_;refine eA (s := s) (l := ((List.range (max a.length b.length)).take i).map fun i => max (gH a i) (gH b i)) (v : Int) h2 rfl ?_ (by omega) fun q cc H3 h3 => ?_
    ·unfold room; simp; omega
    refine ag (Bm ..) ?_;refine aa (aJ (by omega) (by omega)) ?_;rw [show ((i : Nat) : Int) + 1 = ((i + 1 : Nat) : Int) from by omega];refine ih (i + 1) _ H3 (by omega) ?_;rw [List.take_succ_eq_append_getElem hir, IC, List.getElem_range];rw [hv] at h3;show ac (ts 1 bH _ (((List.range (max a.length b.length)).take i).map (fun i => max (gH a i) (gH b i)) ++ [max (gH a i) (gH b i)]) * (P * R)) H3;exact h3.to
   have pa := (ha.at i).1;have pb := (hb.at i).1;refine ag (pA ..) ?_;refine cw (s := sa) (l := a) h ?_;refine cw (s := sb) (l := b) h ?_;refine aa (eZ) ?_;refine aa (cy (by omega)) ?_;refine gs ?_;refine ag (Bl ..) ?_;refine cw (s := sa) (l := a) h ?_
   by_cases hia : i < a.length
   ·refine aa (fT (by omega)) ?_
    refine gs ?_;refine cw (s := sb) (l := b) h ?_
    by_cases hib : i < b.length
    ·refine aa (fT (by omega)) ?_
     refine gs ?_;refine da (s := sa) (l := a) (v := vi a[i]) h hia rfl ?_;refine da (s := sb) (l := b) (v := vi b[i]) h hib rfl ?_;refine aa (eZ) ?_;exact hnx _ (by rw [qa hia, qa hib])
    ·refine aa (jf (by omega)) ?_
     refine gs ?_;refine da (s := sa) (l := a) (v := vi a[i]) h hia rfl ?_;refine aa (eZ) ?_;exact hnx _ (by rw [qa hia, p9 (c := b) (by omega)])
   ·refine aa (jf (by omega)) ?_
    refine gs ?_
    have hib : i < b.length := by omega
    refine da (s := sb) (l := b) (v := vi b[i]) h hib rfl ?_;refine aa (eZ) ?_;exact hnx _ (by rw [p9 (c := a) (by omega), qa hib]; omega)
 exact loop (max a.length b.length) 0 (.slice none 0 0) H (by omega) (by have := cK 1 bH h; exact this)
theorem ac9 {a b : List Int} {n : Nat} (ha : l7 a n) (hb : l7 b n) : l7 (Ul a b) n ∧ Hr a (Ul a b) ∧ Hr b (Ul a b) := by
 have e := ac8 (a := a) (b := b) (fun i => (ha.at i).1) (fun i => (hb.at i).1);refine ⟨⟨?_, fun x hx => ?_⟩, fun i => by rw [e]; omega, fun i => by rw [e]; omega⟩
 ·unfold Ul
  have := ha.len;have := hb.len;simp;omega
 ·unfold Ul at hx
  rw [List.mem_map] at hx;obtain ⟨i, _, rfl⟩ := hx;have := ha.at i;have := hb.at i;omega
structure Ticked (a c : List Int) (n : Nat) : Prop where
 ok : l7 c (n + 1)
 le : Hr a c
theorem YI {P : SP} {sa : Value} {a : List Int} [ra : Rd P sa 1 bH a] (w : Nat) (hw : w < 64) {n : Nat} (ha : l7 a n) (hn : n < 1000000) :
 Sp r6 [sa, vi (w : Int)] P (fun g : (Option Addr × Nat × Nat) × List Int => ij g.1) (fun g => pu (Ticked a g.2 n) * (ts 1 bH (ij g.1) g.2 * P)) := by
 have hla := ha.len;refine aU (I1 _ _) fun R H h => ?_;have h1 := cK 1 bH h;refine Cd (s := .slice none 0 0) (l := ([] : List Int)) (m := a) h1 ?_ (by omega) fun v H2 h2 => ?_
 ·unfold room; simp; omega
 rw [List.nil_append] at h2;refine aa (bF (by omega)) ?_;refine gs ?_;refine aa (gO (by omega)) ?_;refine gs ?_;refine ag (Bs ..) ?_;have loop : ∀ (d : Nat) (s : Value) (c : List Int) (H : AH), w + 1 - c.length = d → l7 c n → Hr a c → ac (ts 1 bH s c * (P * R)) H →
  wp (lC (vi (w : Int)) (.slice none 0 0) s H) fun v' H' => ∃ g : (Option Addr × Nat × Nat) × List Int, v' = ij g.1 ∧ ac (pu (Ticked a g.2 n) * (ts 1 bH (ij g.1) g.2 * P) * R) H' := by
  intro d
  induction d with
  | zero =>
   intro s c H hd hc hle h
   have hwc : w < c.length := by omega
   refine ag (pB ..) ?_;refine cw (s := s) (l := c) h ?_;refine aa (Xl (by omega)) ?_;refine gs ?_;refine ag (wm ..) ?_;refine ag (Bt ..) ?_;refine da (s := s) (l := c) (v := vi c[w]) h hwc rfl ?_;have hcw := hc.v _ (AV hwc);refine aa (aJ (by omega) (by omega)) ?_;refine Er (s := s) (l := c) (i := w) (c[w] + 1 : Int) h hwc (.inl ⟨rfl, rfl⟩) rfl (by omega) rfl rfl fun H3 h3 => ?_
   obtain ⟨a4, n4, c4, rfl⟩ : ∃ a n c, s = .slice a n c := by
    rcases jO (s := s) (enc := bH) h with ⟨e, _⟩ | ⟨b, e, _⟩ <;> exact ⟨_, _, _, e⟩
   refine am ⟨((a4, n4, c4), c.set w (c[w] + 1)), rfl, ?_⟩;rw [ak];refine ac.pu.2 ⟨⟨⟨by rw [Gj]; exact hc.len, fun x hx => ?_⟩, hle.trans fun i => ?_⟩, (by rw [ak]; exact (show ac (ts 1 bH (.slice a4 n4 c4) (c.set w (c[w] + 1)) * (P * R)) H3 from h3.to))⟩
   ·rcases List.mem_or_eq_of_mem_set hx with hx | rfl
    ·have := hc.v x hx; omega
    ·omega
   ·unfold gH
    rw [List.getElem?_set]
    split
    ·rename_i e
     subst e;rw [bu hwc];show c[w] ≤ c[w] + 1;omega
    ·exact Int.le_refl _
  | succ d ih =>
   intro s c H hd hc hle h;refine ag (pB ..) ?_;refine cw (s := s) (l := c) h ?_;refine aa (Xm (by omega)) ?_;refine gs ?_;refine ag (Bu ..) ?_;refine Ht h fun rb H3 h3 => ?_;refine eA (s := s) (l := c) (0 : Int) h3 rfl ?_ (by omega) fun q cc H4 h4 => ?_
   ·unfold room; have := hc.len; omega
   refine ih _ (c ++ [0]) H4 (by simp; omega) ⟨by simp; omega, fun x hx => ?_⟩ (hle.trans fun i => ?_) h4.to
   ·rcases List.mem_append.1 hx with hx | hx
    ·exact hc.v x hx
    ·rw [List.mem_singleton] at hx; omega
   ·unfold gH
    rcases Nat.lt_or_ge i c.length with hi | hi
    ·rw [List.getElem?_append_left hi]; exact Int.le_refl _
    ·rw [List.getElem?_eq_none hi, List.getElem?_append_right hi]
     cases i - c.length with
     | zero => exact Int.le_refl _
     | succ k => exact Int.le_refl _
 exact loop (w + 1 - a.length) v a H2 rfl ha (Hr.refl a) h2.to
def ev (E : List Ev) (k : Nat) : Ev := (E[k]?).getD ⟨0, 0, (0, 0, 0)⟩
theorem z8 {E : List Ev} {k : Nat} (h : k < E.length) : ev E k = E[k] := by unfold ev; rw [bu h]; rfl
structure EvR (x : Ev) : Prop where
 who : 0 ≤ x.who ∧ x.who ≤ 63
 kind : 1 ≤ x.kind ∧ x.kind ≤ 6
structure rI (E : List Ev) (k j : Nat) : Prop where
 lt : k < j
 jl : j < E.length
 who : (ev E k).who = (ev E j).who
 no : ∀ m, k < m → m < j → (ev E m).who ≠ (ev E j).who
def sto (x : Ev) : Prop := x.kind = 2 ∨ x.kind = 3
structure mX (E : List Ev) (k j : Nat) : Prop where
 lt : k < j
 jl : j < E.length
 kind : (ev E j).kind = 1 ∨ (ev E j).kind = 3 ∨ (ev E j).kind = 4
 loc : (ev E k).loc = (ev E j).loc
 sto : sto (ev E k)
 no : ∀ m, k < m → m < j → ¬ ((ev E m).loc = (ev E j).loc ∧ Gst.sto (ev E m))
inductive HB (E : List Ev) : Nat → Nat → Prop
 | refl (i : Nat) : HB E i i
 | own {i k j : Nat} : HB E i k → rI E k j → HB E i j
 | fnd {i k j : Nat} : HB E i k → mX E k j → HB E i j
def wri (x : Ev) : Prop := x.kind = 2 ∨ x.kind = 3 ∨ x.kind = 6
def Cf (a b : Ev) : Prop := a.who ≠ b.who ∧ a.loc = b.loc ∧ (5 ≤ a.kind ∨ 5 ≤ b.kind) ∧ (wri a ∨ wri b)
section
variable {E l : List Ev} {i j k : Nat} {x : Ev}
theorem cR (h : k < E.length) : ev (E ++ l) k = ev E k := by unfold ev; rw [List.getElem?_append_left h]
theorem fh : ev (E ++ [x]) E.length = x := by unfold ev; rw [List.getElem?_append_right (bm _), Nat.sub_self]; rfl
theorem rI.app (h : rI E k j) : rI (E ++ l) k j := by
 have hj := h.jl;have hk := h.lt;refine ⟨hk, by rw [mH]; omega, ?_, fun m h1 h2 => ?_⟩
 ·rw [cR (by omega), cR hj]; exact h.who
 ·rw [cR (by omega), cR hj]; exact h.no m h1 h2
theorem mX.app (h : mX E k j) : mX (E ++ l) k j := by
 have hj := h.jl;have hk := h.lt;refine ⟨hk, by rw [mH]; omega, ?_, ?_, ?_, fun m h1 h2 => ?_⟩
 ·rw [cR hj]; exact h.kind
 ·rw [cR (by omega), cR hj]; exact h.loc
 ·rw [cR (by omega)]; exact h.sto
 ·rw [cR (by omega), cR hj]; exact h.no m h1 h2
theorem HB.app (h : HB E i j) : HB (E ++ l) i j := by
 induction h with
 | refl => exact .refl _
 | own _ o ih => exact .own ih o.app
 | fnd _ o ih => exact .fnd ih o.app
theorem HB.le (h : HB E i j) : i ≤ j := by
 induction h with
 | refl => exact bm _
 | own _ o ih => have := o.lt; omega
 | fnd _ o ih => have := o.lt; omega
theorem HB.same (h : HB E i k) : ∀ (d j : Nat), j = k + d → j < E.length → (ev E k).who = (ev E j).who → HB E i j := by
 intro d
 induction d using Nat.strongRecOn with
 | ind d ih =>
  intro j hj hl hw
  by_cases hd : d = 0
  ·subst hd; subst hj; exact h
  have last : ∀ n, k + n < j → (∀ m, k + n < m → m < j → (ev E m).who ≠ (ev E j).who) → ∃ m, k ≤ m ∧ rI E m j := by
   intro n
   induction n with
   | zero => exact fun h1 h2 => ⟨k, bm _, by omega, hl, hw, fun m h3 h4 => h2 m (by omega) h4⟩
   | succ n ihn =>
    intro h1 h2
    by_cases he : (ev E (k + (n + 1))).who = (ev E j).who
    ·exact ⟨_, by omega, h1, hl, he, fun m h3 h4 => h2 m h3 h4⟩
    ·refine ihn (by omega) fun m h3 h4 => ?_
     by_cases hm : m = k + (n + 1)
     ·rw [hm]; exact he
     ·exact h2 m (by omega) h4
  obtain ⟨m, hkm, ho⟩ := last (d - 1) (by omega) (fun m h1 h2 => by omega);have hmj := ho.lt;exact .own (ih (m - k) (by omega) m (by omega) (by omega) (by rw [hw]; exact ho.who.symm)) ho
end
structure u3 where
 md : Nat → Nat
 cl : Nat → Nat → Option Int
 lk : Nat → Option Int
def u3.claim (G : u3) (o k : Nat) (who : Int) : u3 := { G with cl := fun a b => if a = o ∧ b = k then some who else G.cl a b }
def u3.link (G : u3) (o : Nat) (who : Int) : u3 := { G with lk := fun a => if a = o then some who else G.lk a }
def u3.make (G : u3) (o k : Nat) : u3 := { G with md := fun a => if a = o then k else G.md a }
def Cr (G : u3) (E : List Ev) (n : Nat) (who : Int) (o : Nat) : Prop := o < n ∧ ∃ k, k < E.length ∧ (ev E k).who = who ∧ HB E (G.md o) k
structure RG (G : u3) (E : List Ev) (V : bK → Nat) (n : Nat) : Prop where
 kd : ∀ x ∈ E, EvR x
 pl : ∀ x ∈ E, x.loc.1 ≠ 13 → x.loc.1 ≠ 14 → x.loc.1 ≠ 16 → x.kind < 5
 ob : ∀ j, j < E.length → (ev E j).loc.1 = 13 → ∃ o : Nat, o < n ∧ (ev E j).loc = (13, (o : Int), 0) ∧ ((ev E j).kind = 5 ∨ j = G.md o) ∧ HB E (G.md o) j
 sl : ∀ s i, V (10, s, i) ≠ 0 → V (10, s, i) % 4294967296 < n ∧ ∃ st, st < E.length ∧ (ev E st).loc = (10, s, i) ∧ sto (ev E st) ∧ (∀ m, st < m → m < E.length → ¬ ((ev E m).loc = (10, s, i) ∧ sto (ev E m))) ∧ HB E (G.md (V (10, s, i) % 4294967296)) st
 ln : ∀ x ∈ E, x.loc.1 = 14 → ∃ o : Nat, x.loc = (14, (o : Int), 0) ∧ G.lk o = some x.who
 ce : ∀ x ∈ E, x.loc.1 = 16 → ∃ o k : Nat, x.loc = (16, (o : Int), (k : Int)) ∧ G.cl o k = some x.who
 wc : ∀ o k : Nat, G.cl o k ≠ none → k < ay (V (11, (o : Int), 0))
 wl : ∀ o : Nat, G.lk o ≠ none → aL (V (11, (o : Int), 0)) ≠ 0
 hd : ∀ o : Nat, V (12, (o : Int), 0) = 0
theorem RG.no_race {G : u3} {E : List Ev} {V : bK → Nat} {n : Nat} (h : RG G E V n) : ∀ i j, i < j → j < E.length → Cf (ev E i) (ev E j) → HB E i j := by
 intro i j hij hj hc;obtain ⟨c1, c2, c3, c4⟩ := hc
 have hi : i < E.length := by omega
 have mi : ev E i ∈ E := by rw [z8 hi]; exact AV hi
 have mj : ev E j ∈ E := by rw [z8 hj]; exact AV hj
 by_cases q13 : (ev E j).loc.1 = 13
 ·obtain ⟨o, _, o2, o3, o4⟩ := h.ob j hj q13
  obtain ⟨o', _, p2, p3, p4⟩ := h.ob i hi (by rw [c2]; exact q13)
  have hoo : o' = o := by
   rw [c2, o2] at p2
   injection p2 with _ p2
   injection p2 with p2 _
   omega
  subst hoo
  rcases o3 with o3 | o3
  ·have wi : wri (ev E i) := by
    rcases c4 with c4 | c4
    ·exact c4
    ·unfold wri at c4; omega
   rcases p3 with p3 | p3
   ·unfold wri at wi; omega
   ·rw [p3]; exact o4
  ·have := p4.le
   omega
 by_cases q14 : (ev E j).loc.1 = 14
 ·obtain ⟨o, o1, o2⟩ := h.ln _ mj q14
  obtain ⟨o', p1, p2⟩ := h.ln _ mi (by rw [c2]; exact q14);rw [c2, o1] at p1
  injection p1 with _ p1
  injection p1 with p1 _
  have : o' = o := by omega
  subst this;rw [o2] at p2;exact absurd (eu p2).symm c1
 by_cases q16 : (ev E j).loc.1 = 16
 ·obtain ⟨o, k, o1, o2⟩ := h.ce _ mj q16
  obtain ⟨o', k', p1, p2⟩ := h.ce _ mi (by rw [c2]; exact q16);rw [c2, o1] at p1
  injection p1 with _ p1
  injection p1 with p1 p3
  have : o' = o := by omega
  subst this
  have : k' = k := by omega
  subst this;rw [o2] at p2;exact absurd (eu p2).symm c1
 have a := h.pl _ mj q13 q14 q16;have b := h.pl _ mi (by rw [c2]; exact q13) (by rw [c2]; exact q14) (by rw [c2]; exact q16);omega
section
variable {G : u3} {E l : List Ev} {V V' : bK → Nat} {n n' o k : Nat} {x : Ev} {who : Int}
theorem Cr.app (h : Cr G E n who o) : Cr G (E ++ l) n who o := by
 obtain ⟨h0, k, h1, h2, h3⟩ := h;exact ⟨h0, k, by rw [mH]; omega, by rw [cR h1]; exact h2, h3.app⟩
theorem Cr.last (h : Cr G E n x.who o) : HB (E ++ [x]) (G.md o) E.length := by
 obtain ⟨h0, k, h1, h2, h3⟩ := h;exact h3.app.same (E.length - k) E.length (by omega) (by simp) (by rw [cR h1, fh]; exact h2)
theorem RG.ev (h : RG G E V n) (r : EvR x) (pl : x.loc.1 ≠ 13 → x.loc.1 ≠ 14 → x.loc.1 ≠ 16 → x.kind < 5)
 (ob : x.loc.1 = 13 → ∃ o : Nat, x.loc = (13, (o : Int), 0) ∧ x.kind = 5 ∧ Cr G E n x.who o)
 (ln : x.loc.1 = 14 → ∃ o : Nat, x.loc = (14, (o : Int), 0) ∧ G.lk o = some x.who)
 (ce : x.loc.1 = 16 → ∃ o k : Nat, x.loc = (16, (o : Int), (k : Int)) ∧ G.cl o k = some x.who)
 (hs : ∀ s i, V' (10, s, i) ≠ 0 → (V' (10, s, i) = V (10, s, i) ∧ ¬ (x.loc = (10, s, i) ∧ sto x)) ∨ (x.loc = (10, s, i) ∧ sto x ∧ Cr G E n x.who (V' (10, s, i) % 4294967296)))
 (h11 : ∀ o : Nat, ay (V (11, (o : Int), 0)) ≤ ay (V' (11, (o : Int), 0)) ∧ (aL (V (11, (o : Int), 0)) ≠ 0 → aL (V' (11, (o : Int), 0)) ≠ 0))
 (h12 : ∀ o : Nat, V' (12, (o : Int), 0) = V (12, (o : Int), 0)) : RG G (E ++ [x]) V' n := by
 have hm : ∀ {y : Ev}, y ∈ E ++ [x] → y ∈ E ∨ y = x := fun hy => by
  rcases List.mem_append.1 hy with h | h
  ·exact .inl h
  ·exact .inr (List.mem_singleton.1 h)
 have hlen : (E ++ [x]).length = E.length + 1 := by simp
 refine ⟨fun y hy => ?_, fun y hy => ?_, fun j hj hl => ?_, fun s i hv => ?_, fun y hy => ?_, fun y hy => ?_, fun o k hc => ?_, fun o hc => ?_, fun o => ?_⟩
 ·rcases hm hy with hy | rfl
  ·exact h.kd y hy
  ·exact r
 ·rcases hm hy with hy | rfl
  ·exact h.pl y hy
  ·exact pl
 ·rcases Nat.lt_or_ge j E.length with hj2 | hj2
  ·rw [cR hj2] at hl ⊢
   obtain ⟨o, o1, o2, o3, o4⟩ := h.ob j hj2 hl;exact ⟨o, o1, o2, o3, o4.app⟩
  ·have : j = E.length := by omega
   subst this;rw [fh] at hl ⊢;obtain ⟨o, o1, o2, o3⟩ := ob hl;exact ⟨o, o3.1, o1, .inl o2, o3.last⟩
 ·rcases hs s i hv with ⟨h1, h2⟩ | ⟨h1, h2, h3⟩
  ·rw [h1] at hv ⊢
   obtain ⟨q1, st, q2, q3, q4, q5, q6⟩ := h.sl s i hv;refine ⟨q1, st, by omega, by rw [cR q2]; exact q3, by rw [cR q2]; exact q4, fun m m1 m2 => ?_, q6.app⟩
   rcases Nat.lt_or_ge m E.length with hm2 | hm2
   ·rw [cR hm2]; exact q5 m m1 hm2
   ·have : m = E.length := by omega
    subst this;rw [fh]; exact h2
  ·exact ⟨h3.1, E.length, by omega, by rw [fh]; exact h1, by rw [fh]; exact h2, fun m m1 m2 => by omega, h3.last⟩
 ·rcases hm hy with hy | rfl
  ·exact h.ln y hy
  ·exact ln
 ·rcases hm hy with hy | rfl
  ·exact h.ce y hy
  ·exact ce
 ·have := h.wc o k hc
  have := (h11 o).1;omega
 ·exact (h11 o).2 (h.wl o hc)
 ·rw [h12]; exact h.hd o
theorem RG.claim (h : RG G E V n) (o k : Nat) (who : Int) (hn : G.cl o k = none) (hk : k < ay (V (11, (o : Int), 0))) : RG (G.claim o k who) E V n := by
 refine ⟨h.kd, h.pl, h.ob, h.sl, h.ln, fun x hx hl => ?_, fun a b hc => ?_, h.wl, h.hd⟩
 ·obtain ⟨a, b, h1, h2⟩ := h.ce x hx hl
  refine ⟨a, b, h1, ?_⟩;show (if a = o ∧ b = k then some who else G.cl a b) = _;rw [if_neg (fun q => by rw [q.1, q.2, hn] at h2; cases h2)];exact h2
 ·by_cases q : a = o ∧ b = k
  ·rw [q.1, q.2]; exact hk
  ·refine h.wc a b fun hh => hc ?_
   show (if a = o ∧ b = k then some who else G.cl a b) = _;rw [if_neg q];exact hh
theorem RG.link (h : RG G E V n) (o : Nat) (who : Int) (hn : G.lk o = none) (hk : aL (V (11, (o : Int), 0)) ≠ 0) : RG (G.link o who) E V n := by
 refine ⟨h.kd, h.pl, h.ob, h.sl, fun x hx hl => ?_, h.ce, h.wc, fun a hc => ?_, h.hd⟩
 ·obtain ⟨a, h1, h2⟩ := h.ln x hx hl
  refine ⟨a, h1, ?_⟩;show (if a = o then some who else G.lk a) = _;rw [if_neg (fun q => by rw [q, hn] at h2; cases h2)];exact h2
 ·by_cases q : a = o
  ·rw [q]; exact hk
  ·refine h.wl a fun hh => hc ?_
   show (if a = o then some who else G.lk a) = _;rw [if_neg q];exact hh
theorem RG.make (h : RG G E V n) (who : Int) (hw : 0 ≤ who ∧ who ≤ 3) : RG (G.make n E.length) (E ++ [⟨who, 6, (13, (n : Int), 0)⟩]) V (n + 1) := by
 have hm : ∀ {y : Ev}, y ∈ E ++ [⟨who, 6, (13, (n : Int), 0)⟩] → y ∈ E ∨ y = ⟨who, 6, (13, (n : Int), 0)⟩ := fun hy => by
  rcases List.mem_append.1 hy with h | h
  ·exact .inl h
  ·exact .inr (List.mem_singleton.1 h)
 have hlen : (E ++ [(⟨who, 6, (13, (n : Int), 0)⟩ : Ev)]).length = E.length + 1 := by simp
 have hg : ∀ o, o < n → (G.make n E.length).md o = G.md o := fun o ho => by
  show (if o = n then _ else _) = _;rw [if_neg (by omega)]
 have hgn : (G.make n E.length).md n = E.length := if_pos rfl;refine ⟨fun y hy => ?_, fun y hy => ?_, fun j hj hl => ?_, fun s i hv => ?_, fun y hy => ?_, fun y hy => ?_, h.wc, h.wl, h.hd⟩
 ·rcases hm hy with hy | rfl
  ·exact h.kd y hy
  ·exact ⟨⟨hw.1, by show who ≤ 63; omega⟩, ⟨by show (1 : Int) ≤ 6; omega, by show (6 : Int) ≤ 6; omega⟩⟩
 ·rcases hm hy with hy | rfl
  ·exact h.pl y hy
  ·exact fun q => absurd rfl q
 ·rcases Nat.lt_or_ge j E.length with hj2 | hj2
  ·rw [cR hj2] at hl ⊢
   obtain ⟨o, o1, o2, o3, o4⟩ := h.ob j hj2 hl;exact ⟨o, by omega, o2, by rw [hg o o1]; exact o3, by rw [hg o o1]; exact o4.app⟩
  ·have : j = E.length := by omega
   subst this;rw [fh];exact ⟨n, by omega, rfl, .inr hgn.symm, by rw [hgn]; exact .refl _⟩
 ·obtain ⟨q1, st, q2, q3, q4, q5, q6⟩ := h.sl s i hv
  refine ⟨by omega, st, by omega, by rw [cR q2]; exact q3, by rw [cR q2]; exact q4, fun m m1 m2 => ?_, by rw [hg _ q1]; exact q6.app⟩
  rcases Nat.lt_or_ge m E.length with hm2 | hm2
  ·rw [cR hm2]; exact q5 m m1 hm2
  ·have : m = E.length := by omega
   subst this;rw [fh]
   exact fun q => by simp at q
 ·rcases hm hy with hy | rfl
  ·exact h.ln y hy
  ·exact fun q => by simp at q
 ·rcases hm hy with hy | rfl
  ·exact h.ce y hy
  ·exact fun q => by simp at q
end
theorem aeF {w m : Nat} (h : aX w 0 = some m) : aL w ≠ 2 ∧ aL w ≠ -1 ∧ ay m = ay w + 1 ∧ aL m = 1 := by
 have h : (if cg w ∧ aL w ≠ 2 ∧ ay w < 2305843009213693951 then some (ay w + 1 + 2305843009213693952) else none) = some m := h
 split at h
 ·rename_i hc
  obtain ⟨c1, c2, c3⟩ := hc;have e := eu h
  have hr : cg m = true := by
   unfold cg;refine i4 ?_;omega
  refine ⟨c2, ?_, ?_, ?_⟩
  ·unfold aL; rw [if_pos c1]; omega
  ·rw [ay, if_pos hr]; omega
  ·rw [aL, if_pos hr]; omega
 ·cases h
theorem aeG {w m : Nat} (h : aX w 2 = some m) : ay m = ay w ∧ aL m = 2 := by
 have h : (if aL w = 0 then some (ay w + 4611686018427387904) else none) = some m := h
 split at h
 ·have hl : ay w < 2305843009213693952 := by
   unfold ay
   split
   ·exact Nat.mod_lt _ (by omega)
   ·omega
  have e := eu h
  have hr : cg m = true := by
   unfold cg;refine i4 ?_;omega
  refine ⟨?_, ?_⟩
  ·rw [ay, if_pos hr]; omega
  ·rw [aL, if_pos hr]; omega
 ·cases h
theorem kc {E : List Ev} {i : Nat} (h : i < E.length) (j : Nat) : (Ev.cells E[i])[j]? = (Ev.cells (ev E i))[j]? := by rw [z8 h]
theorem DK (a b : bK) : aj (.flat 3) .eql (.agg (#[vi a.1, vi a.2.1, vi a.2.2] : Array Value)) (.agg (#[vi b.1, vi b.2.1, vi b.2.2] : Array Value)) = some (vb (decide (a = b))) := by
 show (ny (.flat 3) (.agg #[vi a.1, vi a.2.1, vi a.2.2]) (.agg #[vi b.1, vi b.2.1, vi b.2.2])).map (fun b => Value.bool b) = _;simp only [ny];rw [if_pos ⟨rfl, rfl⟩];obtain ⟨a1, a2, a3⟩ := a;obtain ⟨b1, b2, b3⟩ := b
 by_cases h1 : a1 = b1 <;> by_cases h2 : a2 = b2 <;> by_cases h3 : a3 = b3 <;> simp [ba, h1, h2, h3]
section
variable {P : SP} {s : Value} {E : List Ev} [r : Rd P s 5 Ev.cells E] (hE : E.length < 100000)
include hE
theorem aa0 (i : Nat) (hi : i < E.length) : Sp vQ [s, vi (i : Int)] P (fun n : Int => vi n) (fun n => pu (n = -1 ∧ (∀ k, ¬ rI E k i) ∨ ∃ k : Nat, n = (k : Int) ∧ rI E k i) * P) := by
 refine aU (L7 _ _) fun R H h => ?_;refine ag (CV ..) ?_;refine aa (fe (by omega) (by omega)) ?_;refine ag (CX ..) ?_
 have loop : ∀ n : Nat, n ≤ i → (∀ m, n ≤ m → m < i → (ev E m).who ≠ (ev E i).who) → wp (nE s (vi (i : Int)) (vi 0) (vi ((n : Int) - 1)) H) fun v' H' => ∃ x : Int, v' = vi x ∧ ac (pu (x = -1 ∧ (∀ k, ¬ rI E k i) ∨ ∃ k : Nat, x = (k : Int) ∧ rI E k i) * P * R) H' := by
  intro n
  induction n with
  | zero =>
   intro _ hm;refine ag (rE ..) ?_;refine aa (fT (by omega)) ?_;refine gs ?_;refine ag (yG ..) ?_;refine ag (CW ..) ?_;refine am ⟨-1, rfl, ?_⟩;rw [ak];exact ac.pu.2 ⟨.inl ⟨rfl, fun k hk => hm k (Nat.zero_le _) hk.lt hk.who⟩, h⟩
  | succ n ih =>
   intro hn hm
   have hnl : n < E.length := by omega
   rw [show ((n + 1 : Nat) : Int) - 1 = (n : Int) from by omega];refine ag (rE ..) ?_;refine aa (jf (by omega)) ?_;refine gs ?_;refine ag (CY ..) ?_;refine fN (s := s) (l := E) (g := 0) (v := vi (ev E n).who) h hnl (by omega) (by rw [kc hnl]; rfl) ?_;refine fN (s := s) (l := E) (g := 0) (v := vi (ev E i).who) h hi (by omega) (by rw [kc hi]; rfl) ?_
   by_cases hw : (ev E n).who = (ev E i).who
   ·refine aa (bf hw) ?_
    refine gs ?_;refine am ⟨(n : Int), rfl, ?_⟩;rw [ak];exact ac.pu.2 ⟨.inr ⟨n, rfl, by omega, hi, hw, fun m h1 h2 => hm m (by omega) h2⟩, h⟩
   ·refine aa (aM hw) ?_
    refine gs ?_;refine ag (CZ ..) ?_;refine aa (fe (by omega) (by omega)) ?_;refine ih (by omega) fun m h1 h2 => ?_
    by_cases e : m = n
    ·subst e; exact hw
    ·exact hm m (by omega) h2
 exact loop i (bm _) fun m h1 h2 => by omega
theorem SH (i : Nat) (hi : i < E.length) (hk : (ev E i).kind = 1 ∨ (ev E i).kind = 3 ∨ (ev E i).kind = 4) : Sp lr [s, vi (i : Int)] P (fun n : Int => vi n) (fun n => pu (n = -1 ∧ (∀ k, ¬ mX E k i) ∨ ∃ k : Nat, n = (k : Int) ∧ mX E k i) * P) := by
 refine aU (GP _ _) fun R H h => ?_;refine ag (yB ..) ?_;refine aa (fe (by omega) (by omega)) ?_;refine ag (yD ..) ?_
 have loop : ∀ n : Nat, n ≤ i → (∀ m, n ≤ m → m < i → ¬ ((ev E m).loc = (ev E i).loc ∧ sto (ev E m))) → wp (jL s (vi (i : Int)) (vi 0) (vi ((n : Int) - 1)) H) fun v' H' => ∃ x : Int, v' = vi x ∧ ac (pu (x = -1 ∧ (∀ k, ¬ mX E k i) ∨ ∃ k : Nat, x = (k : Int) ∧ mX E k i) * P * R) H' := by
  intro n
  induction n with
  | zero =>
   intro _ hm;refine ag (nX ..) ?_;refine aa (fT (by omega)) ?_;refine gs ?_;refine ag (uv ..) ?_;refine ag (yC ..) ?_;refine am ⟨-1, rfl, ?_⟩;rw [ak];exact ac.pu.2 ⟨.inl ⟨rfl, fun k hk => hm k (Nat.zero_le _) hk.lt ⟨hk.loc, hk.sto⟩⟩, h⟩
  | succ n ih =>
   intro hn hm
   have hnl : n < E.length := by omega
   rw [show ((n + 1 : Nat) : Int) - 1 = (n : Int) from by omega];refine ag (nX ..) ?_;refine aa (jf (by omega)) ?_;refine gs ?_;refine ag (yE ..) ?_;refine Hk (s := s) (l := E) (g := 2) (n := 3) (cs := [vi (ev E n).loc.1, vi (ev E n).loc.2.1, vi (ev E n).loc.2.2]) h hnl (by omega) (by rw [← z8 hnl]; rfl) ?_;refine Hk (s := s) (l := E) (g := 2) (n := 3) (cs := [vi (ev E i).loc.1, vi (ev E i).loc.2.1, vi (ev E i).loc.2.2]) h hi (by omega) (by rw [← z8 hi]; rfl) ?_;refine aa (DK _ _) ?_
   have next : ¬ ((ev E n).loc = (ev E i).loc ∧ sto (ev E n)) → wp (nD s (vi (i : Int)) (vi 0) (vi (n : Int)) H) fun v' H' => ∃ x : Int, v' = vi x ∧ ac (pu (x = -1 ∧ (∀ k, ¬ mX E k i) ∨ ∃ k : Nat, x = (k : Int) ∧ mX E k i) * P * R) H' := by
    intro hne;refine ag (yF ..) ?_;refine aa (fe (by omega) (by omega)) ?_;refine ih (by omega) fun m h1 h2 => ?_
    by_cases e : m = n
    ·subst e; exact hne
    ·exact hm m (by omega) h2
   have got : (ev E n).loc = (ev E i).loc → sto (ev E n) → wp (some (vi (n : Int), H)) fun v' H' => ∃ x : Int, v' = vi x ∧ ac (pu (x = -1 ∧ (∀ k, ¬ mX E k i) ∨ ∃ k : Nat, x = (k : Int) ∧ mX E k i) * P * R) H' := by
    intro hl hs;refine am ⟨(n : Int), rfl, ?_⟩;rw [ak];exact ac.pu.2 ⟨.inr ⟨n, rfl, by omega, hi, hk, hl, hs, fun m h1 h2 => hm m (by omega) h2⟩, h⟩
   by_cases hl : (ev E n).loc = (ev E i).loc
   ·rw [i4 hl]
    refine gs ?_;refine fN (s := s) (l := E) (g := 1) (v := vi (ev E n).kind) h hnl (by omega) (by rw [kc hnl]; rfl) ?_;refine gs ?_
    by_cases k2 : (ev E n).kind = 2
    ·refine aa (bf k2) ?_
     refine gs ?_;exact got hl (.inl k2)
    ·refine aa (aM k2) ?_
     refine gs ?_;refine fN (s := s) (l := E) (g := 1) (v := vi (ev E n).kind) h hnl (by omega) (by rw [kc hnl]; rfl) ?_;refine gs ?_
     by_cases k3 : (ev E n).kind = 3
     ·refine aa (bf k3) ?_
      refine gs ?_;exact got hl (.inr k3)
     ·refine aa (aM k3) ?_
      refine gs ?_
      exact next fun q => by rcases q.2 with q | q; exact k2 q; exact k3 q
   ·rw [iv hl]
    refine gs ?_;exact next fun q => hl q.1
 exact loop i (bm _) fun m h1 h2 => by omega
theorem TI (hR : ∀ x ∈ E, EvR x) : Sp gX [s] P (fun _ : Unit => vb true) (fun _ => P) := by
 refine aU (sm _) fun R H h => ?_;refine ag (od ..) ?_;refine ag (oh ..) ?_
 have loop : ∀ (d i : Nat), i + d = E.length → wp (dZ s (vb false) (vi (i : Int)) H) fun v' H' => ∃ _x : Unit, v' = vb true ∧ ac (P * R) H' := by
  intro d
  induction d with
  | zero =>
   intro i hi;refine ag (im ..) ?_;refine cw (s := s) (l := E) h ?_;refine aa (bF (by omega)) ?_;refine gs ?_;refine ag (mR ..) ?_;refine ag (og ..) ?_;exact am ⟨(), rfl, h⟩
  | succ d ih =>
   intro i hi
   have hil : i < E.length := by omega
   obtain ⟨⟨w1, w2⟩, k1, k2⟩ := hR _ (AV hil);refine ag (im ..) ?_;refine cw (s := s) (l := E) h ?_;refine aa (cy (by omega)) ?_;refine gs ?_;refine ag (ol ..) ?_;refine fN (s := s) (l := E) (g := 0) (v := vi E[i].who) h hil (by omega) rfl ?_;refine aa (bF (by omega)) ?_;refine gs ?_;refine fN (s := s) (l := E) (g := 0) (v := vi E[i].who) h hil (by omega) rfl ?_;refine gs ?_;refine aa (gO (by omega)) ?_;refine gs ?_;refine fN (s := s) (l := E) (g := 1) (v := vi E[i].kind) h hil (by omega) rfl ?_;refine gs ?_;refine aa (bF (by omega)) ?_;refine gs ?_;refine fN (s := s) (l := E) (g := 1) (v := vi E[i].kind) h hil (by omega) rfl ?_;refine gs ?_;refine aa (gO (by omega)) ?_;refine gs ?_;refine ag (oo ..) ?_;refine aa (aJ (by omega) (by omega)) ?_;rw [show ((i : Nat) : Int) + 1 = ((i + 1 : Nat) : Int) from by omega];exact ih (i + 1) (by omega)
 exact loop E.length 0 (by omega)
end
theorem Ci (x : Ev) : Sp fp [.agg (Ev.cells x).toArray] emp (fun b : Bool => vb b) (fun b => pu (b = true ↔ wri x)) := by
 refine aU (C0 _) fun R H h => ?_;refine aV (l := Ev.cells x) h fun b H1 h1 => ?_;refine ar h1 aB rfl ?_
 by_cases k2 : x.kind = 2
 ·refine aa (bf k2) ?_
  refine gs ?_;exact am ⟨true, rfl, ac.pu.2 ⟨⟨fun _ => .inl k2, fun _ => rfl⟩, h1.to⟩⟩
 ·refine aa (aM k2) ?_
  refine gs ?_;refine ar h1 aB rfl ?_;refine gs ?_
  by_cases k3 : x.kind = 3
  ·refine aa (bf k3) ?_
   refine gs ?_;exact am ⟨true, rfl, ac.pu.2 ⟨⟨fun _ => .inr (.inl k3), fun _ => rfl⟩, h1.to⟩⟩
  ·refine aa (aM k3) ?_
   refine gs ?_;refine ar h1 aB rfl ?_;refine gs ?_
   by_cases k6 : x.kind = 6
   ·refine aa (bf k6) ?_
    refine gs ?_;exact am ⟨true, rfl, ac.pu.2 ⟨⟨fun _ => .inr (.inr k6), fun _ => rfl⟩, h1.to⟩⟩
   ·refine aa (aM k6) ?_
    refine gs ?_
    exact am ⟨false, rfl, ac.pu.2 ⟨⟨(fun q => by cases q), (fun q => by rcases q with q | q | q; exact absurd q k2; exact absurd q k3; exact absurd q k6)⟩, h1.to⟩⟩
theorem EE (a b : Ev) : Sp kF [.agg (Ev.cells a).toArray, .agg (Ev.cells b).toArray] emp (fun c : Bool => vb c) (fun c => pu (c = true → Cf a b)) := by
 refine aU (yp _ _) fun R H h => ?_;refine aV (l := [vi a.who, vi a.kind, vi a.loc.1, vi a.loc.2.1, vi a.loc.2.2]) h fun b1 H1 h1 => ?_;refine aV (l := [vi b.who, vi b.kind, vi b.loc.1, vi b.loc.2.1, vi b.loc.2.2]) h1 fun b2 H2 h2 => ?_;have no : ∀ {H : AH}, ac R H → ∃ c : Bool, vb false = vb c ∧ ac (pu (c = true → Cf a b) * R) H := fun h => ⟨false, rfl, ac.pu.2 ⟨(fun q => by cases q), h⟩⟩;refine ar h2 aB rfl ?_
 have rest : ∀ (pl : Bool) (_hp : pl = true → 5 ≤ a.kind ∨ 5 ≤ b.kind), wp (ld [.f 0] (vp b1) H2 fun v9 =>
 ld [.f 0] (vp b2) H2 fun v10 =>
 (aj .other .neq v9 v10).bind fun v11 =>
 mC v11 true  3 [.f 2] (vp b1) H2 fun v12 =>
 mC v11 true  3 [.f 2] (vp b2) H2 fun v13 =>
 (gB v11 true (aj (.flat 3) .eql v12 v13)).bind fun v14 =>
 (aH v11 v14 (vb false)).bind fun v15 =>
 (gV v15 true (vb pl)).bind fun v16 =>
 (aH v15 v16 (vb false)).bind fun v17 =>
 (gB v17 true (ax 5 (vp b1) H2)).bind fun v18 =>
 (gE v17 true H2 (FF fp [v18] H2)).bind fun r19 =>
 (gV v17 true r19.1).bind fun v20 =>
 (gB v20 false (ax 5 (vp b2) r19.2)).bind fun v21 =>
 (gE v20 false r19.2 (FF fp [v21] r19.2)).bind fun r22 =>
 (gB v17 true (aH v20 (vb true) r22.1)).bind fun v23 =>
 (aH v17 v23 (vb false)).bind fun v24 =>
 some (v24, r22.2)) fun v' H' => ∃ c : Bool, v' = vb c ∧ ac (pu (c = true → Cf a b) * R) H' := by
  intro pl hp;refine ar h2 aB rfl ?_;refine ar h2 aB rfl ?_
  by_cases hw : a.who = b.who
  ·refine aa (IJ hw) ?_
   refine gs ?_;exact am (no h2.to)
  ·refine aa (acL hw) ?_
   refine gs ?_;refine Jz (l := [vi a.loc.1, vi a.loc.2.1, vi a.loc.2.2]) h2 aB ?_;refine gs ?_;refine Jz (l := [vi b.loc.1, vi b.loc.2.1, vi b.loc.2.2]) h2 aB ?_;refine gs ?_;refine aa (DK a.loc b.loc) ?_
   by_cases hl : a.loc = b.loc
   ·rw [i4 hl]
    refine gs ?_
    cases pl with
    | false =>
     refine gs ?_;exact am (no h2.to)
    | true =>
     refine gs ?_;refine aT h2 ?_;refine gs ?_;refine af h2 (Ci a) fun c1 H3 h3 => ?_;rw [ac.pu] at h3;obtain ⟨hc1, h3⟩ := h3
     cases c1 with
     | true =>
      refine gs ?_;exact am ⟨true, rfl, ac.pu.2 ⟨fun _ => ⟨hw, hl, hp rfl, .inl (hc1.1 rfl)⟩, h3.to⟩⟩
     | false =>
      refine gs ?_;refine aT h3 ?_;refine gs ?_;refine af h3 (Ci b) fun c2 H4 h4 => ?_;rw [ac.pu] at h4;obtain ⟨hc2, h4⟩ := h4
      cases c2 with
      | true =>
       refine gs ?_;exact am ⟨true, rfl, ac.pu.2 ⟨fun _ => ⟨hw, hl, hp rfl, .inr (hc2.1 rfl)⟩, h4.to⟩⟩
      | false =>
       refine gs ?_;exact am (no h4.to)
   ·rw [iv hl]
    refine gs ?_;exact am (no h2.to)
 by_cases ka : 5 ≤ a.kind
 ·refine aa (jf ka) ?_
  refine gs ?_;exact rest true fun _ => .inl ka
 ·refine aa (fT ka) ?_
  refine gs ?_;refine ar h2 aB rfl ?_;refine gs ?_
  by_cases kb : 5 ≤ b.kind
  ·refine aa (jf kb) ?_
   refine gs ?_;exact rest true fun _ => .inr kb
  ·refine aa (fT kb) ?_
   refine gs ?_
   exact rest false fun q => by cases q
abbrev Ck := mY × List Int
def ga : List Ck → SP
 | [] => emp
 | q :: l => ts 1 bH (ij q.1) q.2 * ga l
abbrev bL (CC : List Ck) : List mY := CC.map fun q : Ck => q.1
theorem QE : ∀ (CC : List Ck) (g : Ck), ga (CC ++ [g]) = ga CC * ts 1 bH (ij g.1) g.2 := by
 intro CC
 induction CC with
 | nil => intro g; show ts 1 bH (ij g.1) g.2 * emp = emp * _; rw [dB, fg]
 | cons q CC ih => intro g; show ts 1 bH (ij q.1) q.2 * ga (CC ++ [g]) = ts 1 bH (ij q.1) q.2 * ga CC * _; rw [ih, ak]
theorem yW : ∀ {CC : List Ck} {i : Nat} (h : i < CC.length), Rd (ga CC) (ij CC[i].1) 1 bH CC[i].2 := by
 intro CC
 induction CC with
 | nil => intro i h; simp at h
 | cons q CC ih =>
  intro i h
  cases i with
  | zero =>
   show Rd (ts 1 bH (ij q.1) q.2 * ga CC) (ij q.1) 1 bH q.2
   infer_instance
  | succ i =>
   have h' : i < CC.length := by simpa using h
   haveI := ih h'
   show Rd (_ * ga CC) (ij CC[i].1) 1 bH CC[i].2
   infer_instance
structure Zs (E : List Ev) (CC : List Ck) : Prop where
 ok : ∀ (j : Nat) (h : j < CC.length), l7 CC[j].2 (j + 1)
 edge : ∀ (j : Nat) (h : j < CC.length) (k : Nat) (hk : k < j), rI E k j ∨ mX E k j → Hr CC[k].2 CC[j].2
theorem rI.uniq {E : List Ev} {k k' j : Nat} (h : rI E k j) (h' : rI E k' j) : k = k' := by
 rcases Nat.lt_trichotomy k k' with q | q | q
 ·exact absurd h'.who (h.no k' q h'.lt)
 ·exact q
 ·exact absurd h.who (h'.no k q h.lt)
theorem mX.uniq {E : List Ev} {k k' j : Nat} (h : mX E k j) (h' : mX E k' j) : k = k' := by
 rcases Nat.lt_trichotomy k k' with q | q | q
 ·exact absurd ⟨h'.loc, h'.sto⟩ (h.no k' q h'.lt)
 ·exact q
 ·exact absurd ⟨h.loc, h.sto⟩ (h'.no k q h.lt)
theorem Zs.hb {E : List Ev} {CC : List Ck} (h : Zs E CC) (hl : CC.length = E.length) {i j : Nat} (b : HB E i j) : ∀ (hj : j < CC.length), ∃ hi : i < CC.length, Hr CC[i].2 CC[j].2 := by
 induction b with
 | refl => exact fun hj => ⟨hj, Hr.refl _⟩
 | own b o ih =>
  intro hj;have hk := o.lt;obtain ⟨hi, le⟩ := ih (by omega);exact ⟨hi, le.trans (h.edge _ hj _ hk (.inl o))⟩
 | fnd b o ih =>
  intro hj;have hk := o.lt;obtain ⟨hi, le⟩ := ih (by omega);exact ⟨hi, le.trans (h.edge _ hj _ hk (.inr o))⟩
section
variable {P : SP} {s : Value} {E : List Ev} [r : Rd P s 5 Ev.cells E] (hE : E.length < 100000) (hR : ∀ x ∈ E, EvR x)
include hE hR
theorem J2 : Sp nr [s] P (fun g : mY × List Ck => ij g.1) (fun g => pu (g.2.length = E.length ∧ Zs E g.2) * (ts 1 b6 (ij g.1) (bL g.2) * (ga g.2 * P))) := by
 refine aU (CO _) fun R H h => ?_;refine af h (TI (P := P) hE hR) fun _ H1 h1 => ?_;refine gs ?_;rw [Bool.not_true];refine gs ?_;refine ag (vW ..) ?_;refine ag (vY ..) ?_;have loop : ∀ (d i : Nat) (o : Value) (CC : List Ck) (H : AH), i + d = E.length → CC.length = i → Zs E CC → ac (ts 1 b6 o (bL CC) * (ga CC * (P * R))) H →
  wp (iV s (.slice none 0 0) o (vi (i : Int)) H) fun v' H' => ∃ g : mY × List Ck, v' = ij g.1 ∧ ac (pu (g.2.length = E.length ∧ Zs E g.2) * (ts 1 b6 (ij g.1) (bL g.2) * (ga g.2 * P)) * R) H' := by
  intro d
  induction d with
  | zero =>
   intro i o CC H hi hl hC h;refine ag (mP ..) ?_;refine cw (s := s) (l := E) h ?_;refine aa (bF (by omega)) ?_;refine gs ?_;refine ag (sj ..) ?_;refine ag (vX ..) ?_
   obtain ⟨a4, n4, c4, rfl⟩ : ∃ a n c, o = .slice a n c := by
    rcases jO (s := o) (enc := b6) h with ⟨e, _⟩ | ⟨b, e, _⟩ <;> exact ⟨_, _, _, e⟩
   refine am ⟨((a4, n4, c4), CC), rfl, ?_⟩;rw [ak];exact ac.pu.2 ⟨⟨(show CC.length = _ from by omega), hC⟩, (show ac (ts 1 b6 (.slice a4 n4 c4) (bL CC) * (ga CC * P) * R) H from h.to)⟩
  | succ d ih =>
   intro i o CC H hi hl hC h
   have hil : i < E.length := by omega
   have hev := hR _ (AV hil);obtain ⟨w, hw⟩ : ∃ w : Nat, E[i].who = (w : Int) := ⟨E[i].who.toNat, by have := hev.who; omega⟩
   have hw64 : w < 64 := by have := hev.who; omega
   -- with the clock that is made
   have k11 : ∀ (P1 : SP) (x5 : Value) (c : List Int) (H1 : AH) (_r1 : Rd (P1 * (ts 1 b6 o (bL CC) * (ga CC * (P * R)))) x5 1 bH c), l7 c i → (∀ (k : Nat) (hk : k < CC.length), rI E k i ∨ mX E k i → Hr CC[k].2 c) → ac (P1 * (ts 1 b6 o (bL CC) * (ga CC * (P * R)))) H1 →
    wp (cF s (.slice none 0 0) o (vi (i : Int)) x5 H1) fun v' H' => ∃ g : mY × List Ck, v' = ij g.1 ∧ ac (pu (g.2.length = E.length ∧ Zs E g.2) * (ts 1 b6 (ij g.1) (bL g.2) * (ga g.2 * P)) * R) H' := by
    intro P1 x5 c H1 _r1 hc hedge h1;refine ag (uk ..) ?_;refine fN (s := s) (l := E) (g := 0) (v := vi (w : Int)) h1 hil (by omega) (by rw [← hw]; rfl) ?_;refine af h1 (YI (P := P1 * (ts 1 b6 o (bL CC) * (ga CC * (P * R)))) w hw64 hc (by omega)) fun g H2 h2 => ?_;rw [ak, ac.pu] at h2;obtain ⟨hT, h2⟩ := h2;refine Ht h2 fun rb H3 h3 => ?_;refine eA (s := o) (l := bL CC) (g.1 : mY) h3 rfl ?_ (by omega) fun q cc H4 h4 => ?_
    ·unfold room; simp; omega
    refine ag (wa ..) ?_;refine aa (aJ (by omega) (by omega)) ?_;rw [show ((i : Nat) : Int) + 1 = ((i + 1 : Nat) : Int) from by omega];refine ih (i + 1) _ (CC ++ [g]) H4 (by omega) (by simp; omega) ⟨fun j hj => ?_, fun j hj k hk he => ?_⟩ ?_
    ·rcases Nat.lt_or_ge j CC.length with h5 | h5
     ·rw [List.getElem_append_left h5]; exact hC.ok j h5
     ·have : j = CC.length := by rw [mH, List.length_singleton] at hj; omega
      subst this;rw [List.getElem_append_right (bm _)];simp only [Nat.sub_self, List.getElem_cons_zero];rw [hl];exact hT.ok
    ·rcases Nat.lt_or_ge j CC.length with h5 | h5
     ·rw [List.getElem_append_left h5, List.getElem_append_left (by omega)]; exact hC.edge j h5 k hk he
     ·have : j = CC.length := by rw [mH, List.length_singleton] at hj; omega
      subst this;rw [List.getElem_append_right (bm _), List.getElem_append_left hk];simp only [Nat.sub_self, List.getElem_cons_zero];rw [hl] at he;exact (hedge k hk he).trans hT.le
    ·rw [QE]
     have e : bL (CC ++ [g]) = bL CC ++ [g.1] := by simp [bL]
     rw [e];exact h4.to
   -- with the clock of its own access ahead
   have k10 : ∀ (x5 : Value) (c : List Int) (H1 : AH) (_r1 : Rd (ga CC) x5 1 bH c), l7 c i → (∀ (k : Nat) (hk : k < CC.length), rI E k i → Hr CC[k].2 c) → ac (ts 1 b6 o (bL CC) * (ga CC * (P * R))) H1 →
    wp (hZ s (.slice none 0 0) o (vi (i : Int)) x5 H1) fun v' H' => ∃ g : mY × List Ck, v' = ij g.1 ∧ ac (pu (g.2.length = E.length ∧ Zs E g.2) * (ts 1 b6 (ij g.1) (bL g.2) * (ga g.2 * P)) * R) H' := by
    intro x5 c H1 _r1 hc hedge h1
    have plain : (∀ k, ¬ mX E k i) → ∀ H2, ac (ts 1 b6 o (bL CC) * (ga CC * (P * R))) H2 → wp (cF s (.slice none 0 0) o (vi (i : Int)) x5 H2) fun v' H' => ∃ g : mY × List Ck, v' = ij g.1 ∧ ac (pu (g.2.length = E.length ∧ Zs E g.2) * (ts 1 b6 (ij g.1) (bL g.2) * (ga g.2 * P)) * R) H' := by
     intro hno H2 h2
     exact k11 emp x5 c H2 inferInstance hc (fun k hk he => by
      rcases he with he | he
      ·exact hedge k hk he
      ·exact absurd he (hno k)) (by rw [fg]; exact h2)
    have look : (ev E i).kind = 1 ∨ (ev E i).kind = 3 ∨ (ev E i).kind = 4 → wp ((FF lr [s, vi (i : Int)] H1).bind fun r29 =>
     (aj .other .geq r29.1 (vi 0)).bind fun v30 =>
     au v30
     (ld [.i 1 r29.1] o r29.2 fun v31 =>
     (FF nt [x5, v31] r29.2).bind fun r32 =>
     cF s (.slice none 0 0) o (vi (i : Int)) r32.1 r32.2)
     (cF s (.slice none 0 0) o (vi (i : Int)) x5 r29.2)) fun v' H' => ∃ g : mY × List Ck, v' = ij g.1 ∧ ac (pu (g.2.length = E.length ∧ Zs E g.2) * (ts 1 b6 (ij g.1) (bL g.2) * (ga g.2 * P)) * R) H' := by
     intro hk;refine af h1 (SH (P := P) hE i hil hk) fun n H2 h2 => ?_;rw [ak, ac.pu] at h2;obtain ⟨hn, h2⟩ := h2
     rcases hn with ⟨rfl, hno⟩ | ⟨k, rfl, hf⟩
     ·refine aa (fT (by omega)) ?_
      refine gs ?_;exact plain hno H2 h2.to
     ·have hkl : k < CC.length := by have := hf.lt; omega
      refine aa (jf (by omega)) ?_;refine gs ?_;have h3 : ac (ts 1 b6 o (bL CC) * (ga CC * (P * R))) H2 := h2.to;refine da (s := o) (l := bL CC) (v := ij CC[k].1) h3 (by simpa using hkl) (by simp [bL]) ?_
      haveI := yW hkl
      have hck : l7 CC[k].2 i := (hC.ok k hkl).mono (by have := hf.lt; omega);refine af h3 (Xc (P := ga CC) hc hck (by omega)) fun v H4 h4 => ?_;obtain ⟨j1, j2, j3⟩ := ac9 hc hck;refine k11 (ts 1 bH v (Ul c CC[k].2)) v (Ul c CC[k].2) H4 inferInstance j1 (fun k' hk' he => ?_) h4.to
      rcases he with he | he
      ·exact (hedge k' hk' he).trans j2
      ·have := he.uniq hf
       subst this;exact j3
    have nok : ¬ ((ev E i).kind = 1 ∨ (ev E i).kind = 3 ∨ (ev E i).kind = 4) → ∀ k, ¬ mX E k i := fun hn k he => hn he.kind;refine ag (uj ..) ?_;have c1 : ∀ H2, ac (ts 1 b6 o (bL CC) * (ga CC * (P * R))) H2 → True := fun _ _ => trivial;refine fN (s := s) (l := E) (g := 1) (v := vi (ev E i).kind) h1 hil (by omega) (by rw [kc hil]; rfl) ?_
    by_cases q1 : (ev E i).kind = 1
    ·refine aa (bf q1) ?_
     refine gs ?_;exact look (.inl q1)
    ·refine aa (aM q1) ?_
     refine gs ?_;refine fN (s := s) (l := E) (g := 1) (v := vi (ev E i).kind) h1 hil (by omega) (by rw [kc hil]; rfl) ?_;refine gs ?_
     by_cases q3 : (ev E i).kind = 3
     ·refine aa (bf q3) ?_
      refine gs ?_;exact look (.inr (.inl q3))
     ·refine aa (aM q3) ?_
      refine gs ?_;refine fN (s := s) (l := E) (g := 1) (v := vi (ev E i).kind) h1 hil (by omega) (by rw [kc hil]; rfl) ?_;refine gs ?_
      by_cases q4 : (ev E i).kind = 4
      ·refine aa (bf q4) ?_
       refine gs ?_;exact look (.inr (.inr q4))
      ·refine aa (aM q4) ?_
       refine gs ?_
       exact plain (nok (fun q => by rcases q with q | q | q; exact q1 q; exact q3 q; exact q4 q)) H1 h1
   refine ag (mP ..) ?_;refine cw (s := s) (l := E) h ?_;refine aa (cy (by omega)) ?_;refine gs ?_;refine ag (vZ ..) ?_;refine ag (wb ..) ?_;refine af h (aa0 (P := P) hE i hil) fun n H2 h2 => ?_;rw [ak, ac.pu] at h2;obtain ⟨hn, h2⟩ := h2;have h3 : ac (ts 1 b6 o (bL CC) * (ga CC * (P * R))) H2 := h2.to
   rcases hn with ⟨rfl, hno⟩ | ⟨k, rfl, ho⟩
   ·refine aa (fT (by omega)) ?_
    refine gs ?_;exact k10 (.slice none 0 0) [] H2 (aa8 _) (l7.nil _) (fun k hk he => absurd he (hno k)) h3
   ·have hkl : k < CC.length := by have := ho.lt; omega
    refine aa (jf (by omega)) ?_;refine gs ?_;refine da (s := o) (l := bL CC) (v := ij CC[k].1) h3 (by simpa using hkl) (by simp [bL]) ?_;refine k10 (ij CC[k].1) CC[k].2 H2 (yW hkl) ((hC.ok k hkl).mono (by have := ho.lt; omega)) (fun k' hk' he => ?_) h3;have := he.uniq ho;subst this;exact Hr.refl _
 refine loop E.length 0 (.slice none 0 0) [] H1 (by omega) rfl ⟨fun j h => by simp at h, fun j h => by simp at h⟩ ?_;have h2 := cK 1 b6 h1;show ac (ts 1 b6 (.slice none 0 0) [] * (emp * (P * R))) H1;rw [fg];exact h2.to
theorem SD (hno : ∀ i j, i < j → j < E.length → Cf (ev E i) (ev E j) → HB E i j) : Sp pi [s] P (fun _ : Unit => .tuple #[vi 0, vi 0, vb false]) (fun _ => P) := by
 refine aU (GO _) fun R H h => ?_;refine af h (J2 (P := P) hE hR) fun g H1 h1 => ?_;rw [ak, ac.pu] at h1;obtain ⟨⟨hl, hC⟩, h1⟩ := h1;refine ag (yq ..) ?_;refine ag (yu ..) ?_
 have loop : ∀ (d j : Nat) (H : AH), j + d = E.length → ac (ts 1 b6 (ij g.1) (bL g.2) * (ga g.2 * (P * R))) H → wp (jK s (vi 0) (vi 0) (vb false) (ij g.1) (vi (j : Int)) H) fun v' H' => ∃ _x : Unit, v' = .tuple #[vi 0, vi 0, vb false] ∧ ac (P * R) H' := by
  intro d
  induction d with
  | zero =>
   intro j H hj h;refine ag (nW ..) ?_;refine cw (s := ij g.1) (l := bL g.2) h ?_;refine aa (bF (by simp; omega)) ?_;refine gs ?_;refine ag (ul ..) ?_;refine ag (yr ..) ?_;exact am ⟨(), rfl, h.to⟩
  | succ d ih =>
   intro j H hj h
   have hjl : j < E.length := by omega
   refine ag (nW ..) ?_;refine cw (s := ij g.1) (l := bL g.2) h ?_;refine aa (cy (by simp; omega)) ?_;refine gs ?_;refine ag (yw ..) ?_;refine ag (yy ..) ?_
   have inner : ∀ (e i : Nat) (H : AH), i + e = j → ac (ts 1 b6 (ij g.1) (bL g.2) * (ga g.2 * (P * R))) H → wp (iW s (vi 0) (vi 0) (vb false) (ij g.1) (vi (j : Int)) (vi (i : Int)) H) fun v' H' => ∃ _x : Unit, v' = .tuple #[vi 0, vi 0, vb false] ∧ ac (P * R) H' := by
    intro e
    induction e with
    | zero =>
     intro i H hi h;refine ag (mQ ..) ?_;refine aa (bF (by omega)) ?_;refine gs ?_;refine ag (sk ..) ?_;refine ag (yx ..) ?_;refine aa (aJ (by omega) (by omega)) ?_;rw [show ((j : Nat) : Int) + 1 = ((j + 1 : Nat) : Int) from by omega];exact ih (j + 1) H (by omega) h
    | succ e ihe =>
     intro i H hi h
     have hil : i < E.length := by omega
     refine ag (mQ ..) ?_;refine aa (cy (by omega)) ?_;refine gs ?_;refine ag (wg ..) ?_;refine Ce (s := s) (l := E) h hil ?_;refine Ce (s := s) (l := E) h hjl ?_;refine af h (EE E[i] E[j]) fun c H2 h2 => ?_;rw [ac.pu] at h2;obtain ⟨hc, h2⟩ := h2;have h3 : ac (ts 1 b6 (ij g.1) (bL g.2) * (ga g.2 * (P * R))) H2 := h2.to
     have next : ∀ H', ac (ts 1 b6 (ij g.1) (bL g.2) * (ga g.2 * (P * R))) H' → wp (l4 s (vi 0) (vi 0) (vb false) (ij g.1) (vi (j : Int)) (vi (i : Int)) H') fun v' H' => ∃ _x : Unit, v' = .tuple #[vi 0, vi 0, vb false] ∧ ac (P * R) H' := by
      intro H' h';refine ag (wh ..) ?_;refine aa (aJ (by omega) (by omega)) ?_;rw [show ((i : Nat) : Int) + 1 = ((i + 1 : Nat) : Int) from by omega];exact ihe (i + 1) H' (by omega) h'
     cases c with
     | false =>
      refine gs ?_;exact next H2 h3
     | true =>
      refine gs ?_
      have hig : i < g.2.length := by omega
      have hjg : j < g.2.length := by omega
      have hb := hno i j (by omega) hjl (by rw [z8 hil, z8 hjl]; exact hc rfl);obtain ⟨_, le⟩ := hC.hb hl hb hjg;refine da (s := ij g.1) (l := bL g.2) (v := ij g.2[i].1) h3 (by simpa using hig) (by simp [bL]) ?_;refine gs ?_;refine da (s := ij g.1) (l := bL g.2) (v := ij g.2[j].1) h3 (by simpa using hjg) (by simp [bL]) ?_;refine gs ?_
      haveI := yW hig
      haveI := yW hjg
      refine af h3 (aaS (P := ga g.2) le (hC.ok i hig).len (hC.ok j hjg).len) fun _ H4 h4 => ?_;refine gs ?_;rw [Bool.not_true];refine gs ?_;exact next H4 h4.to
   exact inner j 0 H (by omega) h
 exact loop E.length 0 H1 (by omega) h1.to
end
def ef (σ : aE) (o : Nat) : Nat := (av σ o).length
structure TE (G : u3) (E : List Ev) (len : Nat → Nat) (n : Nat) (t : Tk) : Prop where
 fnd : 6 ≤ t.at' ∨ t.at' = 5 ∧ t.found = true → Cr G E n t.who t.obj
 room : t.at' = 9 ∨ t.at' = 10 ∨ t.at' = 12 ∨ t.at' = 13 ∨ t.at' = 14 → ay t.w < len t.obj
 rest : t.at' = 12 ∨ t.at' = 13 → aL t.w ≠ 1
 mine : t.at' = 10 ∨ t.at' = 14 → G.cl t.obj (ay t.w) = some t.who
 link : t.at' = 14 ∨ 21 ≤ t.at' ∧ t.at' < 25 → G.lk t.obj = some t.who
def TK (G : u3) (E : List Ev) (len : Nat → Nat) (n : Nat) (t : Tk) : Prop :=
 (t.x.op = 3 → TE G E len n t) ∧ (t.x.op = 1 → t.at' = 5 → Cr G E n t.who t.obj)
structure Ux (G : u3) (E : List Ev) (len : Nat → Nat) (n : Nat) (G' : u3) (E' : List Ev) (len' : Nat → Nat) (n' : Nat) : Prop where
 ee : ∃ l, E' = E ++ l
 nn : n ≤ n'
 md : ∀ o, o < n → G'.md o = G.md o
 ll : ∀ o, o < n → len' o = len o
 cl : ∀ o k, G.cl o k ≠ none → G'.cl o k = G.cl o k
 lk : ∀ o, G.lk o ≠ none → G'.lk o = G.lk o
section
variable {G G' : u3} {E E' : List Ev} {len len' : Nat → Nat} {n n' o : Nat} {who : Int} {t : Tk} {x : Ev} {l : List Ev}
theorem Cr.mono (h : Cr G E n who o) (g : Ux G E len n G' E' len' n') : Cr G' E' n' who o := by
 obtain ⟨l, rfl⟩ := g.ee;obtain ⟨h0, k, h1, h2, h3⟩ := h.app (l := l);exact ⟨Nat.lt_of_lt_of_le h0 g.nn, k, h1, h2, by rw [g.md o h0]; exact h3⟩
theorem TK.mono (h : TK G E len n t) (g : Ux G E len n G' E' len' n') : TK G' E' len' n' t := by
 refine ⟨fun h3 => ?_, fun h1 h5 => (h.2 h1 h5).mono g⟩;have T := h.1 h3;refine ⟨fun q => (T.fnd q).mono g, fun q => ?_, T.rest, fun q => ?_, fun q => ?_⟩
 ·rw [g.ll _ (T.fnd (by omega)).1]; exact T.room q
 ·have := T.mine q
  rw [g.cl _ _ (by rw [this]; simp)]; exact this
 ·have := T.link q
  rw [g.lk _ (by rw [this]; simp)]; exact this
theorem Ux.refl : Ux G E len n G E len n := ⟨⟨[], by simp⟩, bm _, fun _ _ => rfl, fun _ _ => rfl, fun _ _ _ => rfl, fun _ _ => rfl⟩
theorem Ux.app (hl : ∀ o, len' o = len o) : Ux G E len n G (E ++ l) len' n := ⟨⟨l, rfl⟩, bm _, fun _ _ => rfl, fun o _ => hl o, fun _ _ _ => rfl, fun _ _ => rfl⟩
theorem TE.low (h : t.at' < 5 ∨ t.at' = 5 ∧ t.found = false) : TE G E len n t :=
 ⟨fun q => False.elim (by
  rcases h with h | ⟨h, h2⟩
  ·omega
  ·rcases q with q | ⟨_, q⟩
   ·omega
   ·rw [h2] at q; cases q), fun q => by omega, fun q => by omega, fun q => by omega, fun q => by omega⟩
theorem TE.mid (h : Cr G E n t.who t.obj) (hn : t.at' ≠ 9 ∧ t.at' ≠ 10 ∧ t.at' ≠ 12 ∧ t.at' ≠ 13 ∧ t.at' ≠ 14 ∧ (t.at' < 21 ∨ 25 ≤ t.at')) : TE G E len n t :=
 ⟨fun _ => h, fun q => by omega, fun q => by omega, fun q => by omega, fun q => by omega⟩
theorem TE.rm (h : Cr G E n t.who t.obj) (hr : ay t.w < len t.obj) (h2 : t.at' = 12 ∨ t.at' = 13 → aL t.w ≠ 1) (hn : t.at' ≠ 10 ∧ t.at' ≠ 14 ∧ t.at' < 21) : TE G E len n t :=
 ⟨fun _ => h, fun _ => hr, h2, fun q => by omega, fun q => by omega⟩
theorem TE.lnk (h : Cr G E n t.who t.obj) (hl : G.lk t.obj = some t.who) (hn : 21 ≤ t.at') : TE G E len n t :=
 ⟨fun _ => h, fun q => by omega, fun q => by omega, fun q => by omega, fun _ => hl⟩
theorem TE.own (h : Cr G E n t.who t.obj) (hr : ay t.w < len t.obj) (hc : G.cl t.obj (ay t.w) = some t.who) (hl : t.at' = 14 → G.lk t.obj = some t.who) (hn : t.at' = 10 ∨ t.at' = 14) : TE G E len n t :=
 ⟨fun _ => h, fun _ => hr, fun q => by omega, fun _ => hc, fun q => hl (by omega)⟩
end
def Ew (σ : aE) (t : Tk) (r : aE × Tk × Bool) : Prop :=
 ∀ G, RG G σ.μ.E σ.μ.V σ.obs.length → TK G σ.μ.E (ef σ) σ.obs.length t →
  ∃ G', RG G' r.1.μ.E r.1.μ.V r.1.obs.length ∧ Ux G σ.μ.E (ef σ) σ.obs.length G' r.1.μ.E (ef r.1) r.1.obs.length ∧ r.2.1.who = t.who ∧ (r.2.2 = false → TK G' r.1.μ.E (ef r.1) r.1.obs.length r.2.1)
structure Pla (x : Ev) (V V' : bK → Nat) : Prop where
 r : EvR x
 k : x.kind < 5
 l : x.loc.1 ≠ 13 ∧ x.loc.1 ≠ 14 ∧ x.loc.1 ≠ 16
 s : ∀ s i, V' (10, s, i) ≠ 0 → V' (10, s, i) = V (10, s, i) ∧ ¬ (x.loc = (10, s, i) ∧ sto x)
 w : ∀ o : Nat, V' (11, (o : Int), 0) = V (11, (o : Int), 0)
 h : ∀ o : Nat, V' (12, (o : Int), 0) = V (12, (o : Int), 0)
section
variable {G : u3} {E : List Ev} {V V' : bK → Nat} {n : Nat} {x : Ev} {who : Int}
theorem RG.pla (h : RG G E V n) (p : Pla x V V') : RG G (E ++ [x]) V' n :=
 h.ev p.r (fun _ _ _ => p.k) (fun q => absurd q p.l.1) (fun q => absurd q p.l.2.1) (fun q => absurd q p.l.2.2) (fun s i q => .inl (p.s s i q)) (fun o => by rw [p.w]; exact ⟨bm _, fun q => q⟩) p.h
theorem Zp (hw : 0 ≤ who ∧ who ≤ 3) (k : Int) (l : bK) (hk : 1 ≤ k ∧ k ≤ 6) : EvR ⟨who, k, l⟩ := ⟨⟨hw.1, by show who ≤ 63; omega⟩, hk⟩
theorem qB (hw : 0 ≤ who ∧ who ≤ 3) (k : Int) (l : bK) (hk : k = 1 ∨ k = 4 ∨ (k = 2 ∨ k = 3) ∧ l.1 ≠ 10) (hl : l.1 ≠ 13 ∧ l.1 ≠ 14 ∧ l.1 ≠ 16) : Pla ⟨who, k, l⟩ V V :=
 ⟨Zp hw k l (by omega), (by show k < 5; omega), hl, fun s i _ => ⟨rfl, fun q => by
  have e : l = (10, s, i) := q.1
  have e2 : l.1 = 10 := by rw [e]
  have q2 : k = 2 ∨ k = 3 := q.2
  omega⟩, fun _ => rfl, fun _ => rfl⟩
theorem lA (hw : 0 ≤ who ∧ who ≤ 3) (k : Int) (l : bK) (v : Nat) (hk : k = 2 ∨ k = 3) (hl : l.1 ≠ 13 ∧ l.1 ≠ 14 ∧ l.1 ≠ 16) (h10 : l.1 ≠ 10) (h11 : l.1 ≠ 11) (h12 : l.1 ≠ 12) : Pla ⟨who, k, l⟩ V (fun z => if z = l then v else V z) :=
 ⟨Zp hw k l (by omega), (by show k < 5; omega), hl, fun s i _ => ⟨if_neg (fun e => h10 (by rw [← e])), fun q => by
  have e : l = (10, s, i) := q.1
  exact h10 (by rw [e])⟩, fun _ => if_neg (fun e => h11 (by rw [← e])), fun _ => if_neg (fun e => h12 (by rw [← e]))⟩
theorem S8 (hw : 0 ≤ who ∧ who ≤ 3) (s i : Int) : Pla ⟨who, 2, (10, s, i)⟩ V (fun z => if z = (10, s, i) then 0 else V z) := by
 refine ⟨Zp hw 2 _ (by omega), (by show (2 : Int) < 5; omega), ⟨by simp, by simp, by simp⟩, fun s' i' q => ?_, fun _ => if_neg (by simp), fun _ => if_neg (by simp)⟩;have q : (if ((10 : Int), s', i') = (10, s, i) then 0 else V (10, s', i')) ≠ 0 := q
 by_cases e : ((10 : Int), s', i') = (10, s, i)
 ·rw [if_pos e] at q; exact absurd rfl q
 ·exact ⟨if_neg e, fun q2 => e q2.1.symm⟩
end
section
variable {σ : aE} {t : Tk} {r : aE × Tk × Bool}
theorem Gn {σ' : aE} (h : σ'.obs = σ.obs) : ∀ o, ef σ' o = ef σ o := fun o => by unfold ef av; rw [h]
theorem Hc (hμ : r.1.μ = σ.μ) (ho : r.1.obs = σ.obs) (hw : r.2.1.who = t.who) (hT : r.2.2 = false → ∀ {G : u3}, TK G σ.μ.E (ef σ) σ.obs.length t → TK G σ.μ.E (ef σ) σ.obs.length r.2.1) : Ew σ t r := by
 intro G R T;have hl : ef r.1 = ef σ := funext (Gn ho);rw [hμ, hl, ho];exact ⟨G, R, .refl, hw, fun h => hT h T⟩
theorem jx (who' kd : Int) (l : bK) (hE : r.1.μ.E = σ.μ.E ++ [⟨who', kd, l⟩]) (p : Pla ⟨who', kd, l⟩ σ.μ.V r.1.μ.V) (ho : r.1.obs = σ.obs) (hw : r.2.1.who = t.who)
 (hT : r.2.2 = false → ∀ {G : u3}, RG G σ.μ.E σ.μ.V σ.obs.length → TK G σ.μ.E (ef σ) σ.obs.length t → TK G (σ.μ.E ++ [⟨who', kd, l⟩]) (ef σ) σ.obs.length r.2.1) : Ew σ t r := by
 intro G R T;have hl : ef r.1 = ef σ := funext (Gn ho);rw [hE, hl, ho];exact ⟨G, R.pla p, .app fun _ => rfl, hw, fun h => hT h R T⟩
theorem uW (μ : Mu) (who : Int) (l : bK) (a b : Nat) : (μ.swp who l a b).E = μ.E ++ [⟨who, if μ.V l = a then 3 else 4, l⟩] := by
 unfold Mu.swp Mu.swap
 split <;> rfl
theorem P6 (μ : Mu) (who : Int) (l : bK) (a b : Nat) : (μ.swp who l a b).V = if μ.V l = a then (fun z => if z = l then b else μ.V z) else μ.V := by
 unfold Mu.swp Mu.swap
 split <;> rfl
theorem t6 {who : Int} (hw : 0 ≤ who ∧ who ≤ 3) (μ : Mu) (l : bK) (a b : Nat) (hl : l.1 ≠ 13 ∧ l.1 ≠ 14 ∧ l.1 ≠ 16) (h10 : l.1 ≠ 10) (h11 : l.1 ≠ 11) (h12 : l.1 ≠ 12) : Pla ⟨who, if μ.V l = a then 3 else 4, l⟩ μ.V (μ.swp who l a b).V := by
 rw [P6]
 split
 ·exact lA hw 3 l b (.inr rfl) hl h10 h11 h12
 ·exact qB hw 4 l (.inr (.inl rfl)) hl
theorem aaO {G : u3} (R : RG G σ.μ.E σ.μ.V σ.obs.length) (s i : Int) (who : Int) (hv : σ.μ.V (10, s, i) ≠ 0) : Cr G (σ.μ.E ++ [⟨who, 1, (10, s, i)⟩]) σ.obs.length who (σ.μ.V (10, s, i) % 4294967296) := by
 obtain ⟨q1, st, q2, q3, q4, q5, q6⟩ := R.sl s i hv;refine ⟨q1, σ.μ.E.length, by simp, by rw [fh], .fnd q6.app ⟨q2, by simp, by rw [fh]; exact .inl rfl, by rw [cR q2, fh]; exact q3, by rw [cR q2]; exact q4, fun m h1 h2 => ?_⟩⟩;rw [cR h2, fh];exact q5 m h1 h2
theorem Yn (h : (aC σ t).found = true) : σ.μ.V (10, t.s, (t.i : Int)) ≠ 0 ∧ (aC σ t).obj = σ.μ.V (10, t.s, (t.i : Int)) % 4294967296 := by
 have h2 : tH (σ.μ.V (10, t.s, (t.i : Int))) t.x.flow = true := h;refine ⟨(fun q => by rw [q] at h2; cases h2), ?_⟩;show (if tH (σ.μ.V (10, t.s, (t.i : Int))) t.x.flow = true then _ else _) = _;rw [if_pos h2]
end
section
variable {σ : aE} {t : Tk}
theorem uQ (hw : 0 ≤ t.who ∧ t.who ≤ 3) (ho : t.x.op = 3) (r : aE × Tk × Bool) (at1 : Nat) (hat : at1 < 5 ∨ (aC σ t).found = true ∨ at1 = 5 ∧ (aC σ t).found = false) (hlo : at1 < 5 ∨ at1 = 5 ∨ at1 = 6) (c : Int)
 (hμ : r.1.μ = (bR σ t).μ) (hob : r.1.obs = σ.obs) (he : r.2.1 = { aC σ t with at' := at1, code := c }) : Ew σ t r := by
 refine jx t.who 1 (10, t.s, (t.i : Int)) (by rw [hμ]) (by rw [hμ]; exact qB hw 1 _ (.inl rfl) ⟨by simp, by simp, by simp⟩) hob (by rw [he]; rfl) fun _ G R T => ?_;rw [he];refine ⟨fun _ => ?_, fun h1 => absurd (ho.symm.trans h1) (by simp)⟩
 by_cases hf : (aC σ t).found = true
 ·obtain ⟨h1, h2⟩ := Yn hf
  by_cases h5 : at1 < 5
  ·exact TE.low (.inl h5)
  ·refine TE.mid ?_ (by dsimp only; omega)
   show Cr G _ _ t.who (aC σ t).obj;rw [h2];exact aaO R _ _ _ h1
 ·refine TE.low ?_
  rcases hat with h | h | ⟨h, h2⟩
  ·exact .inl h
  ·exact absurd h hf
  ·exact .inr ⟨h, h2⟩
theorem MP {μ : Mu} {i w m : Nat} : d5 μ i w (some m) = decide (μ.V (11, (i : Int), 0) = w) := by unfold d5; simp
theorem ST (o : Nat) : ef (fI σ t) o = ef σ o := by
 unfold ef av fI;dsimp only;rw [List.getElem?_modify]
 split
 ·rename_i h
  subst h
  cases σ.obs[t.obj]? <;> simp
 ·cases σ.obs[o]? <;> simp
theorem YP (hw : 0 ≤ t.who ∧ t.who ≤ 3) (ho : t.x.op = 3) (at1 at0 : Nat) (h9 : t.at' = 9 ∧ at1 = 10 ∨ t.at' = 13 ∧ at1 = 14) (h0 : at0 = 7 ∨ at0 = 20) (now : Int) (c : Int) :
 Ew σ t (if d5 σ.μ t.obj t.w (aX t.w 0) = true then ((σ.mem (σ.μ.turn t.who t.obj t.w (aX t.w 0))).note now t.who 0, { t with at' := at1, code := c }, false) else (σ.mem (σ.μ.turn t.who t.obj t.w (aX t.w 0)), { t with at' := at0 }, false)) := by
 cases e : aX t.w 0 with
 | none =>
  rw [if_neg (by unfold d5; simp)];refine Hc rfl rfl rfl fun _ G T => ⟨fun h3 => ?_, fun h1 => absurd (ho.symm.trans h1) (by simp)⟩;exact TE.mid ((T.1 ho).fnd (by omega)) (by dsimp only; omega)
 | some m =>
  obtain ⟨m1, m2, m3, m4⟩ := aeF e;rw [MP]
  by_cases hv : σ.μ.V (11, (t.obj : Int), 0) = t.w
  ·rw [if_pos (i4 hv)]
   intro G R T;have T3 := T.1 ho;have hf := T3.fnd (by omega);have hr := T3.room (by omega)
   have hcn : G.cl t.obj (ay t.w) = none := by
    cases hc : G.cl t.obj (ay t.w) with
    | none => rfl
    | some a =>
     have := R.wc _ _ (by rw [hc]; simp);rw [hv] at this;omega
   -- the access
   have eE : (σ.μ.swp t.who (11, (t.obj : Int), 0) t.w m).E = σ.μ.E ++ [⟨t.who, 3, (11, (t.obj : Int), 0)⟩] := by rw [uW, if_pos hv]
   have eV : (σ.μ.swp t.who (11, (t.obj : Int), 0) t.w m).V = fun z => if z = (11, (t.obj : Int), 0) then m else σ.μ.V z := by rw [P6, if_pos hv]
   have R1 : RG G (σ.μ.E ++ [⟨t.who, 3, (11, (t.obj : Int), 0)⟩]) (fun z => if z = (11, (t.obj : Int), 0) then m else σ.μ.V z) σ.obs.length := by
    refine R.ev (Zp hw 3 _ (by omega)) (fun _ _ _ => (by show (3 : Int) < 5; omega)) (fun q => by simp at q) (fun q => by simp at q) (fun q => by simp at q) (fun s i q => .inl ⟨if_neg (by simp), fun q => by simp at q⟩) (fun o => ?_) (fun o => if_neg (by simp));show ay (σ.μ.V (11, (o : Int), 0)) ≤ ay (if ((11 : Int), (o : Int), (0 : Int)) = (11, (t.obj : Int), 0) then m else σ.μ.V (11, (o : Int), 0)) ∧ (_ → aL (if ((11 : Int), (o : Int), (0 : Int)) = (11, (t.obj : Int), 0) then m else σ.μ.V (11, (o : Int), 0)) ≠ 0)
    by_cases q : ((11 : Int), (o : Int), (0 : Int)) = (11, (t.obj : Int), 0)
    ·rw [if_pos q, q, hv]
     exact ⟨by omega, fun _ => by omega⟩
    ·rw [if_neg q]
     exact ⟨bm _, fun q => q⟩
   have Vo : (fun z => if z = ((11 : Int), (t.obj : Int), (0 : Int)) then m else σ.μ.V z) (11, (t.obj : Int), 0) = m := if_pos rfl;have R2 := R1.claim t.obj (ay t.w) t.who hcn (Nat.lt_of_lt_of_eq (Nat.lt_succ_self _) (m3.symm.trans (congrArg ay Vo.symm)));have ccl : (G.claim t.obj (ay t.w) t.who).cl t.obj (ay t.w) = some t.who := if_pos ⟨rfl, rfl⟩;have cle : ∀ o k, G.cl o k ≠ none → (G.claim t.obj (ay t.w) t.who).cl o k = G.cl o k := fun o k q => if_neg (fun p => q (by rw [p.1, p.2]; exact hcn));show ∃ G', RG G' (σ.μ.swp t.who (11, (t.obj : Int), 0) t.w m).E (σ.μ.swp t.who (11, (t.obj : Int), 0) t.w m).V σ.obs.length ∧ Ux G σ.μ.E (ef σ) σ.obs.length G' (σ.μ.swp t.who (11, (t.obj : Int), 0) t.w m).E (ef σ) σ.obs.length ∧ t.who = t.who ∧ (false = false → TK G' (σ.μ.swp t.who (11, (t.obj : Int), 0) t.w m).E (ef σ) σ.obs.length { t with at' := at1, code := c });rw [eE, eV];have hf' : Cr G (σ.μ.E ++ [⟨t.who, 3, (11, (t.obj : Int), 0)⟩]) σ.obs.length t.who t.obj := hf.app
   rcases h9 with ⟨a1, rfl⟩ | ⟨a1, rfl⟩
   ·exact ⟨_, R2, ⟨⟨_, rfl⟩, bm _, fun _ _ => rfl, fun _ _ => rfl, cle, fun _ _ => rfl⟩, rfl, fun _ => ⟨fun _ => TE.own hf' hr ccl (fun q => by simp at q) (.inl rfl), fun h1 => absurd (ho.symm.trans h1) (by simp)⟩⟩
   ·have hst : aL t.w = 0 := by
     have := T3.rest (.inr a1)
     have q : aL t.w = -1 ∨ aL t.w = 0 ∨ aL t.w = 1 ∨ aL t.w = 2 := by
      unfold aL
      split
      ·rename_i hr
       have := of_decide_eq_true hr;omega
      ·exact .inl rfl
     omega
    have hln : G.lk t.obj = none := by
     cases hc : G.lk t.obj with
     | none => rfl
     | some a =>
      have := R.wl _ (by rw [hc]; simp);rw [hv] at this;exact absurd hst this
    have R3 := R2.link t.obj t.who hln (fun q => by have q := (congrArg aL Vo).symm.trans q; rw [m4] at q; cases q);have clk : ((G.claim t.obj (ay t.w) t.who).link t.obj t.who).lk t.obj = some t.who := if_pos rfl;refine ⟨_, R3, ⟨⟨_, rfl⟩, bm _, fun _ _ => rfl, fun _ _ => rfl, cle, fun o q => ?_⟩, rfl, fun _ => ⟨fun _ => TE.own hf' hr ccl (fun _ => clk) (.inr rfl), fun h1 => absurd (ho.symm.trans h1) (by simp)⟩⟩;exact if_neg (fun p => q (by rw [p]; exact hln))
  ·rw [if_neg (by rw [iv hv]; simp)]
   refine jx t.who 4 (11, (t.obj : Int), 0) (by show (σ.μ.swp t.who (11, (t.obj : Int), 0) t.w m).E = _; rw [uW, if_neg hv]) (by show Pla _ _ (σ.μ.swp t.who (11, (t.obj : Int), 0) t.w m).V; rw [P6, if_neg hv]; exact qB hw 4 _ (.inr (.inl rfl)) ⟨by simp, by simp, by simp⟩) rfl rfl fun _ G R T => ⟨fun h3 => ?_, fun h1 => absurd (ho.symm.trans h1) (by simp)⟩;exact TE.mid ((T.1 ho).fnd (by omega)).app (by dsimp only; omega)
theorem acH (hw : 0 ≤ t.who ∧ t.who ≤ 3) (ho : t.x.op = 3) (at1 : Nat) (h9 : t.at' = 10 ∧ at1 = 11 ∨ t.at' = 14 ∧ at1 = 21) : Ew σ t (fI σ t, { t with at' := at1 }, false) := by
 intro G R T;have T3 := T.1 ho;have hf := T3.fnd (by omega);have hr := T3.room (by omega);have hc := T3.mine (by omega);have hl : ef (fI σ t) = ef σ := funext ST;have hk : ay t.w % (av σ t.obj).length = ay t.w := Nat.mod_eq_of_lt hr
 have hE : (fI σ t).μ.E = σ.μ.E ++ [⟨t.who, 6, (16, (t.obj : Int), ((ay t.w : Nat) : Int))⟩] := by
  unfold fI;dsimp only;rw [hk]
 have ho' : (fI σ t).obs.length = σ.obs.length := by unfold fI; simp
 have hV : (fI σ t).μ.V = σ.μ.V := rfl;show ∃ G', RG G' (fI σ t).μ.E (fI σ t).μ.V (fI σ t).obs.length ∧ Ux G σ.μ.E (ef σ) σ.obs.length G' (fI σ t).μ.E (ef (fI σ t)) (fI σ t).obs.length ∧ t.who = t.who ∧ (false = false → TK G' (fI σ t).μ.E (ef (fI σ t)) (fI σ t).obs.length { t with at' := at1 });rw [hE, hl, ho', hV];refine ⟨G, R.ev (Zp hw 6 _ (by omega)) (fun _ _ q => absurd rfl q) (fun q => by simp at q) (fun q => by simp at q) (fun _ => ⟨t.obj, ay t.w, rfl, hc⟩) (fun s i q => .inl ⟨rfl, fun q => by simp at q⟩) (fun o => ⟨bm _, fun q => q⟩) (fun o => rfl), .app fun _ => rfl, rfl, fun _ => ⟨fun _ => ?_, fun h1 => absurd (ho.symm.trans h1) (by simp)⟩⟩
 rcases h9 with ⟨a1, rfl⟩ | ⟨a1, rfl⟩
 ·exact TE.mid hf.app (by simp)
 ·exact TE.lnk hf.app (T3.link (.inl a1)) (by simp)
end
section
variable {σ : aE} {t : Tk}
theorem tk3 {G : u3} {E : List Ev} {len : Nat → Nat} {n : Nat} {t' : Tk} (ho : t'.x.op = 3) (h : TE G E len n t') : TK G E len n t' := ⟨fun _ => h, fun h1 => absurd (ho.symm.trans h1) (by simp)⟩
theorem nJ (ho : t.x.op = 3) {r : aE × Tk × Bool} (kd : Int) (l : bK) (hE : r.1.μ.E = σ.μ.E ++ [⟨t.who, kd, l⟩]) (p : Pla ⟨t.who, kd, l⟩ σ.μ.V r.1.μ.V) (hob : r.1.obs = σ.obs) (hw : r.2.1.who = t.who) (hx : r.2.1.x = t.x) (hj : r.2.1.obj = t.obj)
 (h6 : 6 ≤ t.at' ∨ t.at' = 5 ∧ t.found = true) (hn : r.2.2 = false → r.2.1.at' ≠ 9 ∧ r.2.1.at' ≠ 10 ∧ r.2.1.at' ≠ 12 ∧ r.2.1.at' ≠ 13 ∧ r.2.1.at' ≠ 14 ∧ (r.2.1.at' < 21 ∨ 25 ≤ r.2.1.at')) : Ew σ t r :=
 jx t.who kd l hE p hob hw fun hd G R T => tk3 (by rw [hx]; exact ho) (TE.mid (by rw [hw, hj]; exact ((T.1 ho).fnd h6).app) (hn hd))
theorem Hb (ho : t.x.op = 3) {r : aE × Tk × Bool} (kd : Int) (l : bK) (hE : r.1.μ.E = σ.μ.E ++ [⟨t.who, kd, l⟩]) (p : Pla ⟨t.who, kd, l⟩ σ.μ.V r.1.μ.V) (hob : r.1.obs = σ.obs) (hw : r.2.1.who = t.who) (hx : r.2.1.x = t.x)
 (hn : r.2.1.at' < 5) : Ew σ t r :=
 jx t.who kd l hE p hob hw fun hd G R T => tk3 (by rw [hx]; exact ho) (TE.low (.inl hn))
theorem MG (ho : t.x.op = 3) {r : aE × Tk × Bool} (kd : Int) (l : bK) (hE : r.1.μ.E = σ.μ.E ++ [⟨t.who, kd, l⟩]) (p : Pla ⟨t.who, kd, l⟩ σ.μ.V r.1.μ.V) (hob : r.1.obs = σ.obs) (hw : r.2.1.who = t.who) (hx : r.2.1.x = t.x) (hj : r.2.1.obj = t.obj)
 (h6 : 21 ≤ t.at' ∧ t.at' < 25) (hn : 21 ≤ r.2.1.at') : Ew σ t r :=
 jx t.who kd l hE p hob hw fun hd G R T => tk3 (by rw [hx]; exact ho) (TE.lnk (by rw [hw, hj]; exact ((T.1 ho).fnd (by omega)).app) (by rw [hw, hj]; exact (T.1 ho).link (.inr h6)) hn)
theorem acS (ho : t.x.op = 3) {r : aE × Tk × Bool} (kd : Int) (l : bK) (hE : r.1.μ.E = σ.μ.E ++ [⟨t.who, kd, l⟩]) (p : Pla ⟨t.who, kd, l⟩ σ.μ.V r.1.μ.V) (hob : r.1.obs = σ.obs) (hw : r.2.1.who = t.who) (hx : r.2.1.x = t.x) (hj : r.2.1.obj = t.obj) (hww : r.2.1.w = t.w)
 (h6 : 6 ≤ t.at') (hr : ∀ {G : u3}, RG G σ.μ.E σ.μ.V σ.obs.length → TE G σ.μ.E (ef σ) σ.obs.length t → ay t.w < ef σ t.obj) (h2 : ∀ {G : u3}, TE G σ.μ.E (ef σ) σ.obs.length t → r.2.1.at' = 12 ∨ r.2.1.at' = 13 → aL t.w ≠ 1) (hn : r.2.1.at' ≠ 10 ∧ r.2.1.at' ≠ 14 ∧ r.2.1.at' < 21) : Ew σ t r :=
 jx t.who kd l hE p hob hw fun hd G R T => tk3 (by rw [hx]; exact ho) (TE.rm (by rw [hw, hj]; exact ((T.1 ho).fnd (.inl h6)).app) (by rw [hww, hj]; exact hr R (T.1 ho)) (by rw [hww]; exact h2 (T.1 ho)) hn)
theorem YB (hw : 0 ≤ t.who ∧ t.who ≤ 3) (ho : t.x.op = 3) (now : Int) : Ew σ t (ai σ t now) := by
 have L : ∀ (l : bK), l.1 ≠ 13 ∧ l.1 ≠ 14 ∧ l.1 ≠ 16 → Pla ⟨t.who, 1, l⟩ σ.μ.V σ.μ.V := fun l hl => qB hw 1 l (.inl rfl) hl;have n3 : ∀ {a b c : Int}, a ≠ 13 → a ≠ 14 → a ≠ 16 → ((a, b, c) : bK).1 ≠ 13 ∧ ((a, b, c) : bK).1 ≠ 14 ∧ ((a, b, c) : bK).1 ≠ 16 := fun h1 h2 h3 => ⟨h1, h2, h3⟩;unfold ai;dsimp only
 split
 ·rename_i hat
  split
  ·exact Hc rfl rfl rfl fun h => by cases h
  ·refine uQ hw ho _ (if (aC σ t).found = true then 6 else if cT σ (aC σ t) = true then 3 else 2) ?_ ?_ t.code rfl rfl rfl
   ·split
    ·exact .inr (.inl (by assumption))
    ·left; split <;> omega
   ·split
    ·exact .inr (.inr rfl)
    ·left; split <;> omega
 ·refine uQ hw ho _ (if (aC σ t).found = true then 6 else if cT σ (aC σ t) = true then 3 else 2) ?_ ?_ t.code rfl rfl rfl
  ·split
   ·exact .inr (.inl (by assumption))
   ·left; split <;> omega
  ·split
   ·exact .inr (.inr rfl)
   ·left; split <;> omega
 ·rename_i hat
  by_cases h0 : σ.μ.V (8, t.s, 0) = 0
  ·rw [if_pos h0]
   exact Hb ho _ _ (uW ..) (t6 hw σ.μ _ 0 1 (n3 (by omega) (by omega) (by omega)) (by simp) (by simp) (by simp)) rfl rfl rfl (by simp)
  ·rw [if_neg h0]
   exact Hb ho _ _ (uW ..) (t6 hw σ.μ _ 0 1 (n3 (by omega) (by omega) (by omega)) (by simp) (by simp) (by simp)) rfl rfl rfl (by show t.at' < 5; omega)
 ·rename_i hat
  split
  ·rename_i hf
   exact uQ hw ho _ 5 (.inr (.inl hf)) (.inr (.inl rfl)) t.code rfl rfl rfl
  ·rename_i hf
   split
   ·exact uQ hw ho _ 5 (.inr (.inr ⟨rfl, by simpa using hf⟩)) (.inr (.inl rfl)) 5 rfl rfl rfl
   ·exact uQ hw ho _ 4 (.inl (by omega)) (.inl (by omega)) t.code rfl rfl (by rw [show (aC σ t) = { aC σ t with at' := (aC σ t).at', code := (aC σ t).code } from rfl, show (aC σ t).at' = 4 from hat]; rfl)
 ·rename_i hat
  refine jx t.who 2 (8, t.s, 0) rfl (lA hw 2 _ 0 (.inl rfl) (n3 (by omega) (by omega) (by omega)) (by simp) (by simp) (by simp)) rfl rfl fun hd G R T => tk3 ho (TE.mid ((T.1 ho).fnd (.inr ⟨hat, by simpa using hd⟩)).app (by simp))
 ·rename_i hat
  intro G R T;have hf := (T.1 ho).fnd (.inl (by omega));exact ⟨G, R.ev (Zp hw 5 _ (by omega)) (fun q => absurd rfl q) (fun _ => ⟨t.obj, rfl, rfl, hf⟩) (fun q => by simp at q) (fun q => by simp at q) (fun s i q => .inl ⟨rfl, fun q => by simp at q⟩) (fun o => ⟨bm _, fun q => q⟩) (fun o => rfl), .app fun _ => rfl, rfl, fun _ => tk3 ho (TE.mid hf.app (by simp))⟩
 ·rename_i hat
  by_cases h2 : aL (σ.μ.V (11, (t.obj : Int), 0)) = 2
  ·rw [if_pos h2]
   exact Hb ho 1 _ rfl (L _ (n3 (by omega) (by omega) (by omega))) rfl rfl rfl (by simp)
  ·rw [if_neg h2]
   exact nJ ho 1 _ rfl (L _ (n3 (by omega) (by omega) (by omega))) rfl rfl rfl rfl (by omega) (by simp)
 ·rename_i hat
  by_cases hfu : il σ t = true
  ·rw [if_pos hfu]
   exact nJ ho 1 _ rfl (L _ (n3 (by omega) (by omega) (by omega))) rfl rfl rfl rfl (by omega) (by simp)
  ·rw [if_neg hfu]
   refine acS ho 1 _ rfl (L _ (n3 (by omega) (by omega) (by omega))) rfl rfl rfl rfl rfl (by omega) (fun R _ => ?_) ?_ ?_
   ·have hq : il σ t = false := by simpa using hfu
    unfold il lp at hq;have hq := of_decide_eq_false hq;rw [R.hd] at hq;unfold ef;omega
   ·dsimp only
    split
    ·intro _ q; omega
    ·exact fun _ _ => by assumption
   ·dsimp only
    split <;> omega
 ·rename_i hat
  exact YP hw ho 10 7 (.inl ⟨hat, rfl⟩) (.inl rfl) now 0
 ·rename_i hat
  exact acH hw ho 11 (.inl ⟨hat, rfl⟩)
 ·exact jx t.who 2 _ rfl (lA hw 2 _ _ (.inl rfl) (n3 (by omega) (by omega) (by omega)) (by simp) (by simp) (by simp)) rfl rfl (fun h => by cases h)
 ·rename_i hat
  exact acS ho 3 _ rfl (lA hw 3 _ _ (.inr rfl) (n3 (by omega) (by omega) (by omega)) (by simp) (by simp) (by simp)) rfl rfl rfl rfl rfl (by omega) (fun _ T => T.room (by omega)) (fun T _ => T.rest (.inl hat)) (by simp)
 ·rename_i hat
  exact YP hw ho 14 20 (.inr ⟨hat, rfl⟩) (.inr rfl) now 0
 ·rename_i hat
  exact acH hw ho 21 (.inr ⟨hat, rfl⟩)
 ·rename_i hat
  refine nJ ho 1 _ rfl (L _ (n3 (by omega) (by omega) (by omega))) rfl rfl rfl rfl (by omega) fun _ => ?_;dsimp only
  split <;> omega
 ·rename_i hat
  by_cases h2 : aL (σ.μ.V (11, (t.obj : Int), 0)) = 2
  ·rw [if_pos h2]
   exact Hb ho 1 _ rfl (L _ (n3 (by omega) (by omega) (by omega))) rfl rfl rfl (by simp)
  ·rw [if_neg h2]
   exact nJ ho 1 _ rfl (L _ (n3 (by omega) (by omega) (by omega))) rfl rfl rfl rfl (by omega) (by simp)
 ·rename_i hat
  by_cases hfu : il σ t = true
  ·rw [if_pos hfu]
   exact nJ ho 1 _ rfl (L _ (n3 (by omega) (by omega) (by omega))) rfl rfl rfl rfl (by omega) (by simp)
  ·rw [if_neg hfu]
   exact nJ ho 1 _ rfl (L _ (n3 (by omega) (by omega) (by omega))) rfl rfl rfl rfl (by omega) (by simp)
 ·rename_i hat
  split
  ·exact jx t.who 1 _ rfl (L _ (n3 (by omega) (by omega) (by omega))) rfl rfl (fun h => by cases h)
  ·exact nJ ho 1 _ rfl (L _ (n3 (by omega) (by omega) (by omega))) rfl rfl rfl rfl (by omega) (by simp)
 ·rename_i hat
  exact nJ ho 3 _ rfl (lA hw 3 _ _ (.inr rfl) (n3 (by omega) (by omega) (by omega)) (by simp) (by simp) (by simp)) rfl rfl rfl rfl (by omega) (by simp)
 ·rename_i hat
  exact MG ho 2 _ rfl (lA hw 2 _ _ (.inl rfl) (n3 (by omega) (by omega) (by omega)) (by simp) (by simp) (by simp)) rfl rfl rfl rfl (by omega) (by simp)
 ·rename_i hat
  exact MG ho 1 _ rfl (L _ (n3 (by omega) (by omega) (by omega))) rfl rfl rfl rfl (by omega) (by simp)
 ·rename_i hat
  intro G R T;have hf := (T.1 ho).fnd (.inl (by omega));have hl := (T.1 ho).link (.inr (by omega));exact ⟨G, R.ev (Zp hw 6 _ (by omega)) (fun _ q => absurd rfl q) (fun q => by simp at q) (fun _ => ⟨t.obj, rfl, hl⟩) (fun q => by simp at q) (fun s i q => .inl ⟨rfl, fun q => by simp at q⟩) (fun o => ⟨bm _, fun q => q⟩) (fun o => rfl), .app fun _ => rfl, rfl, fun _ => tk3 ho (TE.lnk hf.app hl (by simp))⟩
 ·rename_i hat
  by_cases h0 : σ.μ.V (9, t.s, 0) = t.top
  ·rw [if_pos h0]
   exact nJ ho _ _ (uW ..) (t6 hw σ.μ _ _ _ (n3 (by omega) (by omega) (by omega)) (by simp) (by simp) (by simp)) rfl rfl rfl rfl (by omega) (by simp)
  ·rw [if_neg h0]
   exact MG ho _ _ (uW ..) (t6 hw σ.μ _ _ _ (n3 (by omega) (by omega) (by omega)) (by simp) (by simp) (by simp)) rfl rfl rfl rfl (by omega) (by simp)
 ·exact jx t.who 3 _ rfl (lA hw 3 _ _ (.inr rfl) (n3 (by omega) (by omega) (by omega)) (by simp) (by simp) (by simp)) rfl rfl (fun h => by cases h)
theorem tk0 {G : u3} {E : List Ev} {len : Nat → Nat} {n : Nat} {t' : Tk} (ho : t'.x.op ≠ 3) (h : t'.x.op = 1 → t'.at' ≠ 5) : TK G E len n t' := ⟨fun h3 => absurd h3 ho, fun h1 h5 => absurd h5 (h h1)⟩
theorem He (ho : t.x.op ≠ 3) {r : aE × Tk × Bool} (kd : Int) (l : bK) (hE : r.1.μ.E = σ.μ.E ++ [⟨t.who, kd, l⟩]) (p : Pla ⟨t.who, kd, l⟩ σ.μ.V r.1.μ.V) (hob : r.1.obs = σ.obs) (hw : r.2.1.who = t.who) (hx : r.2.1.x = t.x)
 (hn : t.x.op = 1 → r.2.1.at' ≠ 5) : Ew σ t r :=
 jx t.who kd l hE p hob hw fun hd G R T => tk0 (by rw [hx]; exact ho) (by rw [hx]; exact hn)
theorem YC (hw : 0 ≤ t.who ∧ t.who ≤ 3) (ho : t.x.op ≠ 3) (hn : σ.obs.length < 4294967296) (now : Int) : Ew σ t (P4 σ t now) := by
 have L : ∀ (l : bK), l.1 ≠ 13 ∧ l.1 ≠ 14 ∧ l.1 ≠ 16 → Pla ⟨t.who, 1, l⟩ σ.μ.V σ.μ.V := fun l hl => qB hw 1 l (.inl rfl) hl;have n3 : ∀ {a b c : Int}, a ≠ 13 → a ≠ 14 → a ≠ 16 → ((a, b, c) : bK).1 ≠ 13 ∧ ((a, b, c) : bK).1 ≠ 14 ∧ ((a, b, c) : bK).1 ≠ 16 := fun h1 h2 h3 => ⟨h1, h2, h3⟩
 have lock : Ew σ t (Xo σ t) := by
  refine He ho _ _ (uW ..) (t6 hw σ.μ (8, t.s, 0) 0 1 (n3 (by omega) (by omega) (by omega)) (by simp) (by simp) (by simp)) rfl rfl rfl fun _ => ?_;show (if _ then 3 else 2 : Nat) ≠ 5
  split <;> omega
 have out : Ew σ t (Hi σ t, t, true) := jx t.who 2 (8, t.s, 0) rfl (lA hw 2 _ 0 (.inl rfl) (n3 (by omega) (by omega) (by omega)) (by simp) (by simp) (by simp)) rfl rfl (fun h => by cases h);unfold P4
 split
 ·split
  ·exact Hc rfl rfl rfl fun h => by cases h
  ·exact lock
 ·exact lock
 ·rename_i hat
  dsimp only
  have sc : ∀ (r : aE × Tk × Bool) (a : Nat), a ≠ 5 → r.1.μ = (bR σ t).μ → r.1.obs = σ.obs → r.2.1.who = t.who → r.2.1.x = t.x → r.2.1.at' = a → Ew σ t r := fun r a ha h1 h2 h3 h4 h5 =>
   He ho 1 (10, t.s, (t.i : Int)) (by rw [h1]) (by rw [h1]; exact L _ (n3 (by omega) (by omega) (by omega))) h2 h3 h4 (fun _ => by rw [h5]; exact ha)
  split
  ·split
   ·exact sc _ 6 (by omega) rfl rfl rfl rfl rfl
   ·exact sc _ 4 (by omega) rfl rfl rfl rfl rfl
  ·split
   ·split
    ·split
     ·exact sc _ 6 (by omega) rfl rfl rfl rfl rfl
     ·exact sc _ 4 (by omega) rfl rfl rfl rfl rfl
    ·exact sc _ 10 (by omega) rfl rfl rfl rfl rfl
   ·exact sc _ 3 (by omega) rfl rfl rfl rfl hat
 ·split
  ·rename_i h1
   unfold afK
   split
   ·rename_i hat
    intro G R T;have R1 := R.make t.who hw
    have hlen : (σ.obs ++ [(XI σ t, List.replicate (cU (XI σ t).most) GH)]).length = σ.obs.length + 1 := by simp
    show ∃ G', RG G' (σ.μ.E ++ [⟨t.who, 6, (13, (σ.obs.length : Int), 0)⟩]) σ.μ.V (σ.obs ++ [(XI σ t, List.replicate (cU (XI σ t).most) GH)]).length ∧ Ux G σ.μ.E (ef σ) σ.obs.length G' (σ.μ.E ++ [⟨t.who, 6, (13, (σ.obs.length : Int), 0)⟩]) (ef (σ.make t.who (XI σ t))) (σ.obs ++ [(XI σ t, List.replicate (cU (XI σ t).most) GH)]).length ∧ t.who = t.who ∧ (false = false → TK G' (σ.μ.E ++ [⟨t.who, 6, (13, (σ.obs.length : Int), 0)⟩]) (ef (σ.make t.who (XI σ t))) (σ.obs ++ [(XI σ t, List.replicate (cU (XI σ t).most) GH)]).length { t with obj := σ.obs.length, at' := 5 });rw [hlen];refine ⟨_, R1, ⟨⟨_, rfl⟩, by omega, fun o h => if_neg (by omega), fun o h => ?_, fun _ _ _ => rfl, fun _ _ => rfl⟩, rfl, fun _ => ⟨fun h3 => absurd h3 ho, fun _ _ => ?_⟩⟩
    ·unfold ef av
     show ((((σ.obs ++ [_])[o]?).map _).getD []).length = _;rw [List.getElem?_append_left h]
    ·refine ⟨by show σ.obs.length < _; omega, σ.μ.E.length, by simp, by rw [fh], ?_⟩
     have e : (G.make σ.obs.length σ.μ.E.length).md σ.obs.length = σ.μ.E.length := if_pos rfl;show HB _ ((G.make σ.obs.length σ.μ.E.length).md σ.obs.length) _;rw [e];exact .refl _
   ·rename_i hat
    intro G R T;have hb := T.2 h1 hat;have hob := hb.1;refine ⟨G, R.ev (x := ⟨t.who, 2, (10, t.s, t.mark)⟩) (Zp hw 2 _ (by omega)) (fun _ _ _ => (by show (2 : Int) < 5; omega)) (fun q => by simp at q) (fun q => by simp at q) (fun q => by simp at q) (fun s i q => ?_) (fun o => ?_) (fun o => ?_), .app fun _ => rfl, rfl, fun _ => tk0 ho (fun _ => by show (6 : Nat) ≠ 5; omega)⟩
    ·have q : (if ((10 : Int), s, i) = (10, t.s, t.mark) then dn t.x.flow t.obj else σ.μ.V (10, s, i)) ≠ 0 := q
     show ((if ((10 : Int), s, i) = (10, t.s, t.mark) then dn t.x.flow t.obj else σ.μ.V (10, s, i)) = _ ∧ _) ∨ (_ ∧ _ ∧ Cr G σ.μ.E σ.obs.length t.who ((if ((10 : Int), s, i) = (10, t.s, t.mark) then dn t.x.flow t.obj else σ.μ.V (10, s, i)) % 4294967296))
     by_cases e : ((10 : Int), s, i) = (10, t.s, t.mark)
     ·rw [if_pos e, wM (by omega)]
      exact .inr ⟨e.symm, .inl rfl, hb⟩
     ·rw [if_neg e]
      exact .inl ⟨rfl, fun q => e q.1.symm⟩
    ·show ay (σ.μ.V (11, (o : Int), 0)) ≤ ay (if ((11 : Int), (o : Int), (0 : Int)) = (10, t.s, t.mark) then dn t.x.flow t.obj else σ.μ.V (11, (o : Int), 0)) ∧ (_ → aL (if ((11 : Int), (o : Int), (0 : Int)) = (10, t.s, t.mark) then dn t.x.flow t.obj else σ.μ.V (11, (o : Int), 0)) ≠ 0)
     rw [if_neg (by simp)];exact ⟨bm _, fun q => q⟩
    ·show (if ((12 : Int), (o : Int), (0 : Int)) = (10, t.s, t.mark) then dn t.x.flow t.obj else σ.μ.V (12, (o : Int), 0)) = _
     exact if_neg (by simp)
   ·exact out
  ·rename_i h1
   have ld : ∀ (r : aE × Tk × Bool) (l : bK), l.1 ≠ 13 ∧ l.1 ≠ 14 ∧ l.1 ≠ 16 → r.1.μ = σ.μ.acc t.who 1 l → r.1.obs = σ.obs → r.2.1.who = t.who → r.2.1.x = t.x → Ew σ t r := fun r l hl h1' h2 h3 h4 =>
    He ho 1 l (by rw [h1']) (by rw [h1']; exact L l hl) h2 h3 h4 (fun q => absurd q h1)
   unfold ae2
   split
   ·exact ld _ (11, (t.obj : Int), 0) (n3 (by omega) (by omega) (by omega)) rfl rfl rfl rfl
   ·exact ld _ (2, 0, 0) (n3 (by omega) (by omega) (by omega)) rfl rfl rfl rfl
   ·exact ld _ (11, (t.obj : Int), 0) (n3 (by omega) (by omega) (by omega)) rfl rfl rfl rfl
   ·split
    ·exact ld _ (2, 0, 0) (n3 (by omega) (by omega) (by omega)) rfl rfl rfl rfl
    ·exact ld _ (2, 0, 0) (n3 (by omega) (by omega) (by omega)) rfl rfl rfl rfl
   ·have tw : ∀ (r : aE × Tk × Bool), r.1.μ = σ.μ.turn t.who t.obj t.w (aX t.w 2) → r.1.obs = σ.obs → r.2.1.who = t.who → r.2.1.x = t.x → Ew σ t r := by
     intro r h1' h2 h3 h4 G R T;have hl : ef r.1 = ef σ := funext (Gn h2);have hT : ∀ {G : u3} {E : List Ev}, TK G E (ef σ) σ.obs.length r.2.1 := tk0 (by rw [h4]; exact ho) (fun q => absurd (by rw [h4] at q; exact q) h1);rw [h1', hl, h2]
     cases e : aX t.w 2 with
     | none => exact ⟨G, R, .refl, h3, fun _ => hT⟩
     | some m =>
      obtain ⟨m1, m2⟩ := aeG e;show ∃ G', RG G' (σ.μ.swp t.who (11, (t.obj : Int), 0) t.w m).E (σ.μ.swp t.who (11, (t.obj : Int), 0) t.w m).V _ ∧ Ux _ _ _ _ G' (σ.μ.swp t.who (11, (t.obj : Int), 0) t.w m).E _ _ ∧ _ ∧ _;refine ⟨G, ?_, by rw [uW]; exact .app fun _ => rfl, h3, fun _ => hT⟩;rw [uW, P6]
      by_cases hv : σ.μ.V (11, (t.obj : Int), 0) = t.w
      ·rw [if_pos hv, if_pos hv]
       refine R.ev (Zp hw 3 _ (by omega)) (fun _ _ _ => (by show (3 : Int) < 5; omega)) (fun q => by simp at q) (fun q => by simp at q) (fun q => by simp at q) (fun s i q => .inl ⟨if_neg (by simp), fun q => by simp at q⟩) (fun o => ?_) (fun o => if_neg (by simp));show ay (σ.μ.V (11, (o : Int), 0)) ≤ ay (if ((11 : Int), (o : Int), (0 : Int)) = (11, (t.obj : Int), 0) then m else σ.μ.V (11, (o : Int), 0)) ∧ (_ → aL (if ((11 : Int), (o : Int), (0 : Int)) = (11, (t.obj : Int), 0) then m else σ.μ.V (11, (o : Int), 0)) ≠ 0)
       by_cases q : ((11 : Int), (o : Int), (0 : Int)) = (11, (t.obj : Int), 0)
       ·rw [if_pos q, q, hv]
        exact ⟨by omega, fun _ => by omega⟩
       ·rw [if_neg q]
        exact ⟨bm _, fun q => q⟩
      ·rw [if_neg hv, if_neg hv]
       exact R.pla (qB hw 4 _ (.inr (.inl rfl)) (n3 (by omega) (by omega) (by omega)))
    dsimp only
    split
    ·exact tw _ rfl rfl rfl rfl
    ·exact tw _ rfl rfl rfl rfl
   ·exact He ho 2 _ rfl (S8 hw _ _) rfl rfl rfl (fun q => absurd q h1)
   ·exact out
theorem YA (hw : 0 ≤ t.who ∧ t.who ≤ 3) (hn : σ.obs.length < 4294967296) (now : Int) : Ew σ t (pK σ t now) := by
 by_cases ho : t.x.op = 3
 ·rw [show pK σ t now = ai σ t now from if_pos ho]
  exact YB hw ho now
 ·rw [show pK σ t now = P4 σ t now from if_neg ho]
  exact YC hw ho hn now
end
def RI (σ : aE) (tk : Nat → Option Tk) : Prop := ∃ G, RG G σ.μ.E σ.μ.V σ.obs.length ∧ ∀ w t, w < 4 → tk w = some t → t.who = w ∧ TK G σ.μ.E (ef σ) σ.obs.length t
theorem RI.step {σ : aE} {tk : Nat → Option Tk} {w : Nat} {t : Tk} {r : aE × Tk × Bool} (h : RI σ tk) (hw : w < 4) (ht : tk w = some t) (st : 0 ≤ t.who ∧ t.who ≤ 3 → Ew σ t r) :
 RI r.1 (fun k => if k = w then (if r.2.2 = true then none else some r.2.1) else tk k) := by
 obtain ⟨G, R, T⟩ := h;obtain ⟨h1, h2⟩ := T w t hw ht;obtain ⟨G', R', g, h3, h4⟩ := st (by omega) G R h2;refine ⟨G', R', fun w' t' hw' JJ => ?_⟩;dsimp only at JJ
 by_cases e : w' = w
 ·subst e
  rw [if_pos rfl] at JJ;cases hd : r.2.2
  ·rw [hd, if_neg (by simp)] at JJ
   cases JJ;exact ⟨by rw [h3]; exact h1, h4 hd⟩
  ·rw [hd, if_pos rfl] at JJ; cases JJ
 ·rw [if_neg e] at JJ
  obtain ⟨k1, k2⟩ := T w' t' hw' JJ;exact ⟨k1, k2.mono g⟩
theorem RI.new {σ : aE} {tk : Nat → Option Tk} {w : Nat} {t : Tk} (h : RI σ tk) (hw : t.who = w) (h0 : t.at' = 0) : RI σ (fun k => if k = w then some t else tk k) := by
 obtain ⟨G, R, T⟩ := h;refine ⟨G, R, fun w' t' hw' JJ => ?_⟩;dsimp only at JJ
 by_cases e : w' = w
 ·subst e
  rw [if_pos rfl] at JJ;cases JJ;exact ⟨hw, fun _ => TE.low (.inl (by omega)), fun _ h5 => by omega⟩
 ·rw [if_neg e] at JJ
  exact T w' t' hw' JJ
theorem RG.made {c : gF} (hc : b5 c = true) : ∀ n, n ≤ 16 → ∃ G, RG G (aE.made c n).μ.E (aE.made c n).μ.V (aE.made c n).obs.length := by
 intro n
 induction n with
 | zero =>
  exact fun _ => ⟨⟨fun _ => 0, fun _ _ => none, fun _ => none⟩, (fun x hx => by cases hx), (fun x hx => by cases hx), (fun j hj => by cases hj), (fun s i q => absurd rfl q), (fun x hx => by cases hx), (fun x hx => by cases hx), (fun _ _ q => absurd rfl q), (fun _ q => absurd rfl q), fun _ => rfl⟩
 | succ n ih =>
  intro hn;obtain ⟨G, R⟩ := ih (by omega);have hm := LC c n;unfold aE.made
  split
  ·have R1 := R.make 0 ⟨by omega, by omega⟩
   obtain ⟨s0, hs0⟩ : ∃ s0, s0 = ((n : Nat) : Int).tmod (aE.made c n).c.sh := ⟨_, rfl⟩;obtain ⟨i0, hi0⟩ : ∃ i0, i0 = ((n : Nat) : Int).tdiv (aE.made c n).c.sh := ⟨_, rfl⟩;obtain ⟨o0, ho0⟩ : ∃ o0, o0 = (aE.made c n).obs.length := ⟨_, rfl⟩
   have hlen : ((aE.made c n).lay (n : Int) (1 + (n : Int)) (2 + (n : Int).tmod 2)).obs.length = (aE.made c n).obs.length + 1 := by simp [aE.lay, aE.make]
   have e : ((G.make (aE.made c n).obs.length (aE.made c n).μ.E.length).md (aE.made c n).obs.length) = (aE.made c n).μ.E.length := if_pos rfl;refine ⟨G.make (aE.made c n).obs.length (aE.made c n).μ.E.length, ?_⟩;rw [hlen];show RG _ ((aE.made c n).μ.E ++ [⟨0, 6, (13, ((aE.made c n).obs.length : Int), 0)⟩] ++ [⟨0, 2, (10, ((n : Nat) : Int).tmod (aE.made c n).c.sh, ((n : Nat) : Int).tdiv (aE.made c n).c.sh)⟩]) (fun z => if z = (10, ((n : Nat) : Int).tmod (aE.made c n).c.sh, ((n : Nat) : Int).tdiv (aE.made c n).c.sh) then dn n (aE.made c n).obs.length else (aE.made c n).μ.V z) _;rw [← hs0, ← hi0]
   have hb : Cr (G.make (aE.made c n).obs.length (aE.made c n).μ.E.length) ((aE.made c n).μ.E ++ [⟨0, 6, (13, ((aE.made c n).obs.length : Int), 0)⟩]) ((aE.made c n).obs.length + 1) 0 (aE.made c n).obs.length :=
    ⟨by omega, (aE.made c n).μ.E.length, by simp, by rw [fh], by rw [e]; exact .refl _⟩
   refine R1.ev (Zp ⟨by omega, by omega⟩ 2 _ (by omega)) (fun _ _ _ => (by show (2 : Int) < 5; omega)) (fun q => by simp at q) (fun q => by simp at q) (fun q => by simp at q) (fun s i q => ?_) (fun o => ?_) (fun o => if_neg (by simp))
   ·have q : (if ((10 : Int), s, i) = (10, s0, i0) then dn n (aE.made c n).obs.length else (aE.made c n).μ.V (10, s, i)) ≠ 0 := q
    show ((if ((10 : Int), s, i) = (10, s0, i0) then dn n (aE.made c n).obs.length else (aE.made c n).μ.V (10, s, i)) = _ ∧ _) ∨ (_ ∧ _ ∧ Cr _ _ _ 0 ((if ((10 : Int), s, i) = (10, s0, i0) then dn n (aE.made c n).obs.length else (aE.made c n).μ.V (10, s, i)) % 4294967296))
    by_cases q2 : ((10 : Int), s, i) = (10, s0, i0)
    ·rw [if_pos q2, wM (by omega)]
     exact .inr ⟨q2.symm, .inl rfl, hb⟩
    ·rw [if_neg q2]
     exact .inl ⟨rfl, fun q => q2 q.1.symm⟩
   ·show ay ((aE.made c n).μ.V (11, (o : Int), 0)) ≤ ay (if ((11 : Int), (o : Int), (0 : Int)) = (10, s0, i0) then dn n (aE.made c n).obs.length else (aE.made c n).μ.V (11, (o : Int), 0)) ∧ (_ → aL (if ((11 : Int), (o : Int), (0 : Int)) = (10, s0, i0) then dn n (aE.made c n).obs.length else (aE.made c n).μ.V (11, (o : Int), 0)) ≠ 0)
    rw [if_neg (by simp)];exact ⟨bm _, fun q => q⟩
  ·exact ⟨G, R⟩
def tkW (ws : List Wk) (w : Nat) : Option Tk := match ws[w]? with
 | some (some q) => some q.2.2
 | _ => none
theorem RI.congr {σ : aE} {tk tk' : Nat → Option Tk} (h : RI σ tk) (e : ∀ w, w < 4 → tk' w = tk w) : RI σ tk' := by
 obtain ⟨G, R, T⟩ := h;exact ⟨G, R, fun w t hw ht => T w t hw (by rw [← e w hw]; exact ht)⟩
theorem P9 {ws : List Wk} {w : Nat} {q : Wk} (hw : w < ws.length) (k : Nat) : tkW (ws.set w q) k = if k = w then q.map (fun z => z.2.2) else tkW ws k := by
 unfold tkW
 by_cases e : k = w
 ·subst e
  rw [if_pos rfl, List.getElem?_set_self hw]
  cases q <;> rfl
 ·rw [if_neg e, List.getElem?_set_ne (fun h => e h.symm)]
def RJ (σ : aE) (ws : List Wk) : Prop := RI σ (tkW ws)
theorem Y1 {ws : List Wk} {w : Nat} {q : Wk} (h : ws[w]? = some q) : w < ws.length := by
 rcases Nat.lt_or_ge w ws.length with h2 | h2
 ·exact h2
 ·rw [List.getElem?_eq_none h2] at h; cases h
theorem RJ.step {σ : aE} {ws : List Wk} {w : Nat} {q : Nat × Nat × Tk} {now : Int} {K : Nat} (hK : K < 60000) (S : SI σ K) (hl : ws.length = 4) (hw : ws[w]? = some (some q)) (M : RJ σ ws) :
 RJ (pK σ q.2.2 now).1 (ws.set w (if (pK σ q.2.2 now).2.2 = true then none else some (q.1, q.2.1, (pK σ q.2.2 now).2.1))) := by
 have hwl := Y1 hw;have hob := S.obs;have h1 := RI.step (w := w) (t := q.2.2) (r := pK σ q.2.2 now) M (by omega) (by unfold tkW; rw [hw]) (fun h => YA h (by omega) now);refine RI.congr h1 fun k hk => ?_;rw [P9 hwl]
 by_cases e : k = w
 ·rw [if_pos e, if_pos e]
  split <;> rfl
 ·rw [if_neg e, if_neg e]
theorem RJ.begin {σ : aE} {ws : List Wk} {w e xk : Nat} {place : Int} {c : Cl} (hl : ws.length = 4) (hw : ws[w]? = some none) (M : RJ σ ws) : RJ (σ.begin w place) (ws.set w (some (e, xk, Tk.newA σ.c w c))) := by
 have hwl := Y1 hw
 have q : (Tk.newA σ.c w c).who = w ∧ (Tk.newA σ.c w c).at' = 0 := by
  unfold Tk.newA
  split <;> exact ⟨rfl, rfl⟩
 have h1 : RI (σ.begin w place) (fun k => if k = w then some (Tk.newA σ.c w c) else tkW ws k) := RI.new (σ := σ.begin w place) (tk := tkW ws) M q.1 q.2;refine RI.congr h1 fun k hk => ?_;rw [P9 hwl]
 rfl
theorem RJ.start {c : gF} (hc : b5 c = true) (n : Nat) (hn : n ≤ 16) : RJ (aE.made c n) [none, none, none, none] := by
 obtain ⟨G, R⟩ := RG.made hc n hn;refine ⟨G, R, fun w t hw ht => ?_⟩
 have : w = 0 ∨ w = 1 ∨ w = 2 ∨ w = 3 := by omega
 rcases this with rfl | rfl | rfl | rfl <;> cases ht
theorem RJ.no_race {σ : aE} {ws : List Wk} (M : RJ σ ws) : (∀ x ∈ σ.μ.E, EvR x) ∧ ∀ i j, i < j → j < σ.μ.E.length → Cf (ev σ.μ.E i) (ev σ.μ.E j) → HB σ.μ.E i j := by
 obtain ⟨G, R, _⟩ := M;exact ⟨R.kd, R.no_race⟩
section
variable (x0 x1 x2 x3 x4 x5 x6 x7 x10 x11 x12 x13 x14 x15 x16 x17 x22 : Value) (H : AH)
theorem xO {r : Value × AH} (h : (
 aS (Value.cells x0).toList H fun v0 H1 =>
 (ax 5 v0 H1).bind fun v2 =>
 (FF rY [v2, (vi 4)] H1).bind fun r3 =>
 (ah r3.1 0).bind fun v4 =>
 (ah r3.1 1).bind fun v5 =>
 aS [(.pointer none), (.pointer none)] r3.2 fun v6 H7 =>
 (cZ 2 v6 v4 H7).bind fun H8 =>
 (FF o9 [] H8).bind fun r9 =>
 (pr .not r9.1).bind fun v10 =>
 (gV v10 false v5).bind fun v11 =>
 (gB v10 false (pr .not v11)).bind fun v12 =>
 (aH v10 (vb true) v12).bind fun v13 =>
 au v13
 (some ((vb false), r9.2))
 ((ax 2 v6 r9.2).bind fun v14 =>
 (FF jG [x1, (vi 16)] r9.2).bind fun r15 =>
 bE (ax 2 v6 r15.2) (ax 2 v6 r9.2) <|
 (FF Pq [x2, (vi 9), (vi 200)] r15.2).bind fun r16 =>
 bE (ax 2 v6 r16.2) (ax 2 v6 r9.2) <|
 (FF Pp [v14, r15.1, r16.1, (vi 600), (vb false)] r16.2).bind fun r17 =>
 (ah r17.1 0).bind fun v18 =>
 (ah r17.1 1).bind fun v19 =>
 ld [.f 0] v6 r17.2 fun v20 =>
 ld [.n, .f 0] v20 r17.2 fun v21 =>
 (FF fm [v21] r17.2).bind fun r22 =>
 (FF pi [r22.1] r22.2).bind fun r23 =>
 (ah r23.1 0).bind fun v24 =>
 (ah r23.1 1).bind fun v25 =>
 (ah r23.1 2).bind fun v26 =>
 (gV v19 true v26).bind fun v27 =>
 (gB v19 true (pr .not v27)).bind fun v28 =>
 (aH v19 v28 (vb false)).bind fun v29 =>
 some (v29, r23.2))) = some r) : FF gT [x0, x1, x2] H = some r :=
 fo Tryz.func7 (by kernel_rfl) h
noncomputable def fD (p : List Nat) : Code := Code.sub (bw Tryz.f33) p
noncomputable def fS : KK := dV PP (Tryz.f33).results.toList
noncomputable def V6 : KK := CQ (fD [1, 1, 1, 1, 1]) fS bv fS
noncomputable def Xf : OV := V6 (ls [u, x1, x2, x3, x4, x5, u, u, u, u, x10, x11, x12, x13, x14, x15] 177) H
noncomputable def KT : KK := CQ (fD [1, 1, 1, 1, 1, 1]) fS bv fS
noncomputable def V3 : KK := dT 12554203470773361527671578846415332832204710888928068998141 KT
noncomputable def Lq : OV := KT (ls [u, x1, u, u, u, u, u, u, u, u, x10, x11, u, x13, x14] 178) H
noncomputable def KU : KK := CQ (fD [1, 1, 1, 1, 1, 1, 1]) fS bv fS
noncomputable def V4 : KK := dT 12554203470773361527671578846415332832204710888928069022719 KU
noncomputable def Xg : OV := KU (ls [u, u, u, u, u, u, u, u, u, u, x10, x11] 181) H
noncomputable def V8 : KK := CQ (fD [1, 1, 1, 1, 1, 1, 0, 1]) V4 bv fS
noncomputable def Xh : OV := V8 (ls [u, x1, u, u, u, u, u, u, u, u, x10, x11, u, x13, x14, u, u, u, u, u, u, u, x22] 170) H
noncomputable def KY : KX := BX 2 V4 bv
noncomputable def F4 : KX := ou 12554203470773361527671578846415332832204710888928069022719 KY
noncomputable def KV : KK := xD (fD [1, 1, 1, 1, 1, 1, 0, 1, 4, 5]) F4 fS
noncomputable def V5 : KK := dT 12554203470773361527671578846415332832204710888928064803837 KV
noncomputable def Gm : OV := KV (ls [u, x1, u, u, u, u, u, u, u, u, x10, x11, u, x13, x14, u, u, u, u, u, u, u, x22] 170) H
noncomputable def Wa : KK := CQ (fD [1, 1, 1, 1, 1, 1, 0, 1, 4, 5, 1]) V5 F4 fS
noncomputable def Xj : OV := Wa (ls [u, x1, u, u, u, u, u, u, u, u, x10, x11, u, x13, x14, u, u, u, u, u, u, u, x22] 170) H
noncomputable def KW : KK := CQ (fD [1, 1, 1, 1, 1, 1, 0, 1, 4, 5, 1, 1]) V5 F4 fS
noncomputable def adI : KK := dT 12554203470773361527671578846415332832204710888928064803837 KW
noncomputable def Lx : OV := KW (ls [u, x1, u, u, u, u, u, u, u, u, x10, x11, u, x13, x14, u, u, u, u, u, u, u, x22] 170) H
noncomputable def adJ : KX := BX 3 adI F4
noncomputable def ID : OV := KY 2 (ls [u, u, u, u, u, u, u, u, u, u, x10, x11] 181) H
noncomputable def ON : KK := CQ (fD [1, 1, 1, 1, 1, 0, 1]) V3 bv fS
noncomputable def Pf : OV := ON (ls [u, x1, x2, x3, x4, x5, u, u, u, u, x10, x11, x12, x13, x14, x15, x16] 176) H
noncomputable def F2 : KX := BX 0 V3 bv
noncomputable def zd : KX := ou 12554203470773361527671578846415332832204710888928068998141 F2
noncomputable def F0 : KK := xD (fD [1, 1, 1, 1, 1, 0, 1, 4, 5]) zd fS
noncomputable def OM : KK := dT 12554203470773361527671578846415332832204710888928068895681 F0
noncomputable def zf : OV := F0 (ls [u, x1, x2, x3, x4, x5, u, u, u, u, x10, x11, x12, x13, x14, x15, x16] 176) H
noncomputable def OO : KK := CQ (fD [1, 1, 1, 1, 1, 0, 1, 4, 5, 1]) OM zd fS
noncomputable def Pg : OV := OO (ls [u, x1, x2, x3, x4, x5, u, u, u, u, x10, x11, x12, x13, x14, x15, x16] 176) H
noncomputable def F1 : KK := CQ (fD [1, 1, 1, 1, 1, 0, 1, 4, 5, 1, 1]) OM zd fS
noncomputable def tr : KK := dT 12554203470773361527671578846415332832204710888928068895681 F1
noncomputable def tM : OV := F1 (ls [u, x1, x2, x3, x4, x5, u, u, u, u, x10, x11, x12, x13, x14, x15, x16] 176) H
noncomputable def F3 : KX := BX 1 tr zd
noncomputable def ze : KX := ou 12554203470773361527671578846415332832204710888928068895681 F3
noncomputable def OP : KK := CQ (fD [1, 1, 1, 1, 1, 0, 1, 4, 5, 1, 0, 4, 1]) tr ze fS
noncomputable def Ph : OV := OP (ls [u, x1, x2, x3, x4, x5, u, u, u, u, x10, x11, x12, x13, x14, x15, x16, x17] 175) H
noncomputable def OQ : KK := CQ (fD [1, 1, 1, 1, 1, 0, 1, 4, 5, 1, 0, 4, 1, 1]) tr ze fS
noncomputable def tN : OV := OQ (ls [u, x1, x2, x3, x4, x5, u, u, u, u, x10, x11, x12, x13, x14, x15, x16, x17] 175) H
noncomputable def OR : KK := CQ (fD [1, 1, 1, 1, 1, 0, 1, 4, 5, 1, 0, 4, 1, 1, 1]) tr ze fS
noncomputable def Pi : OV := OR (ls [u, x1, x2, x3, x4, x5, u, u, u, u, x10, x11, x12, x13, x14, x15, x16, x17] 175) H
noncomputable def OS : KK := CQ (fD [1, 1, 1, 1, 1, 0, 1, 4, 5, 1, 0, 4, 1, 1, 1, 1]) tr ze fS
noncomputable def zg : OV := OS (ls [u, x1, x2, x3, x4, x5, u, u, u, u, x10, x11, x12, x13, x14, x15, x16, x17] 175) H
noncomputable def qu : OV := F3 1 (ls [u, x1, x2, x3, x4, x5, u, u, u, u, x10, x11, x12, x13, x14, x15, x16] 176) H
noncomputable def DQ : OV := F2 0 (ls [u, x1, u, u, u, u, u, u, u, u, x10, x11, u, x13, x14] 178) H
theorem cY : aq 12554203470773361527671578846415332832204710888928069022719 fS := rf
theorem V7 : aq 12554203470773361527671578846415332832204710888928068961217 V6 := rc cY aA cY
theorem Ax : aq 12554203470773361527671578846415332832204710888928068998141 KT := rc cY aA cY
theorem Ay : aq 12554203470773361527671578846415332832204710888928069022719 KU := rc cY aA cY
theorem V9 : aq 12554203470773361527671578846415332832204710888928064803837 V8 := rc (cd Ay) aA cY
theorem oP : ∀ i, aq 12554203470773361527671578846415332832204710888928069022719 (KY i) := rb (cd Ay) aA
theorem tt : aq 12554203470773361527671578846415332832204710888928064803837 KV := rl (cx oP) cY
theorem Wb : aq 12554203470773361527671578846415332832204710888928064803837 Wa := rc (cd tt) (cx oP) cY
theorem Ip : aq 12554203470773361527671578846415332832204710888928064803837 KW := rc (cd tt) (cx oP) cY
theorem Wc : ∀ i, aq 12554203470773361527671578846415332832204710888928064803837 (adJ i) := rb (cd Ip) (cx oP)
theorem Sb : aq 12554203470773361527671578846415332832204710888928068895681 ON := rc (cd Ax) aA cY
theorem my : ∀ i, aq 12554203470773361527671578846415332832204710888928068998141 (F2 i) := rb (cd Ax) aA
theorem qr : aq 12554203470773361527671578846415332832204710888928068895681 F0 := rl (cx my) cY
theorem Sc : aq 12554203470773361527671578846415332832204710888928068895681 OO := rc (cd qr) (cx my) cY
theorem jP : aq 12554203470773361527671578846415332832204710888928068895681 F1 := rc (cd qr) (cx my) cY
theorem mz : ∀ i, aq 12554203470773361527671578846415332832204710888928068895681 (F3 i) := rb (cd jP) (cx my)
theorem Sd : aq 12554203470773361527671578846415332832204710888928068764609 OP := rc (cd jP) (cx mz) cY
theorem Se : aq 12554203470773361527671578846415332832204710888928068764609 OQ := rc (cd jP) (cx mz) cY
theorem Sf : aq 12554203470773361527671578846415332832204710888928068764609 OR := rc (cd jP) (cx mz) cY
theorem Sg : aq 12554203470773361527671578846415332832204710888928068764609 OS := rc (cd jP) (cx mz) cY
theorem SO : Xg x10 x11 H =
 some (Value.tuple #[(vb true), (vb true)], H) :=
 (by kernel_rfl)
theorem SS : Lx x1 x10 x11 x13 x14 x22 H =
 (aj .other .add x22 (vi 1)).bind fun v8 =>
 Gm x1 x10 x11 x13 x14 v8 H :=
 (by kernel_rfl)
theorem SR : Xj x1 x10 x11 x13 x14 x22 H =
 ld [.a 4 1 x22] x13 H fun v10 =>
 (aj .ptr .neq v10 (.pointer none)).bind fun v11 =>
 (gV v11 false x22).bind fun v12 =>
 ed v11 false  [.a 4 1 v12] x14 H fun v13 =>
 (gV v11 false x1).bind fun v14 =>
 (gV v11 false x22).bind fun v15 =>
 ed v11 false  [.i 1 v15] v14 H fun v16 =>
 (tX (yv v11) false (dt v16 some) (some undef)).bind fun v17 =>
 (gB v11 false (aj .other .lss v13 v17)).bind fun v18 =>
 (aH v11 (vb true) v18).bind fun v19 =>
 au v19
 (some (Value.tuple #[(vb false), (vb true)], H))
 (Lx x1 x10 x11 x13 x14 x22 H) :=
 (pt rfl 0 Ip (bt rfl (fD [1, 1, 1, 1, 1, 1, 0, 1, 4, 5, 1, 0, 4]) 3 Wc (by kernel_rfl)))
theorem IE : ID x10 x11 H = Xg x10 x11 H :=
 (by kernel_rfl)
theorem DR : Gm x1 x10 x11 x13 x14 x22 H =
 (aj .other .lss x22 (vi 4)).bind fun v20 =>
 (gV v20 true x22).bind fun v21 =>
 (gV v20 true x1).bind fun v22 =>
 (tX (yv v20) true (dt v22 some) (some undef)).bind fun v23 =>
 (gB v20 true (aj .other .lss v21 v23)).bind fun v24 =>
 (aH v20 v24 (vb false)).bind fun v25 =>
 au v25
 (Xj x1 x10 x11 x13 x14 x22 H)
 (ID x10 x11 H) :=
 xS rfl tt (pt rfl 0 Wb (by kernel_rfl))
theorem SQ : Xh x1 x10 x11 x13 x14 x22 H =
 Gm x1 x10 x11 x13 x14 x22 H :=
 (bt rfl (fD [1, 1, 1, 1, 1, 1, 0, 1, 4]) 2 oP (li rfl (fD [1, 1, 1, 1, 1, 1, 0, 1, 4, 5]) tt (by kernel_rfl)))
theorem SN : Lq x1 x10 x11 x13 x14 H =
 Xh x1 x10 x11 x13 x14 (vi 0) H :=
 (pt rfl 0 Ay (pt rfl 0 V9 (by kernel_rfl)))
theorem Lt : tM x1 x2 x3 x4 x5 x10 x11 x12 x13 x14 x15 x16 H =
 (aj .other .add x16 (vi 1)).bind fun v31 =>
 zf x1 x2 x3 x4 x5 x10 x11 x12 x13 x14 x15 v31 H :=
 (by kernel_rfl)
theorem Lw : zg x1 x2 x3 x4 x5 x10 x11 x12 x13 x14 x15 x16 x17 H =
 ld [.a 4 1 x17] x12 H fun v37 =>
 (FF vM [v37, x15] H).bind fun r38 =>
 (ah r38.1 0).bind fun v39 =>
 (ah r38.1 1).bind fun v40 =>
 aS [(vi 0), (.slice none 0 0), (vi 0), (vw 0)] r38.2 fun v41 H42 =>
 (cZ 4 v41 v39 H42).bind fun H43 =>
 ld [.a 4 1 x17] x13 H43 fun v44 =>
 (FF dj [v44, x15] H43).bind fun r45 =>
 (aj .bool .neq v40 r45.1).bind fun v46 =>
 (gB v46 false (ax 4 v41 r45.2)).bind fun v47 =>
 (gV v46 false x17).bind fun v48 =>
 ed v46 false  [.a 4 1 v48] x13 r45.2 fun v49 =>
 (gV v46 false r45.1).bind fun v50 =>
 (gE v46 false r45.2 (FF rZ [v49, v50] r45.2)).bind fun r51 =>
 bE (ax 4 v41 r51.2) (ax 4 v41 r45.2) <|
 (gE v46 false r51.2 (FF rX [v47, r51.1] r51.2)).bind fun r52 =>
 (gB v46 false (pr .not r52.1)).bind fun v53 =>
 (aH v46 (vb true) v53).bind fun v54 =>
 ed v54 false  [.f 0] x5 r52.2 fun v55 =>
 ed v54 false  [.n, .f 0] v55 r52.2 fun v56 =>
 (gE v54 false r52.2 (FF fV [v56] r52.2)).bind fun r57 =>
 CE v54 false  [.f 1] x5 fun v58 =>
 (gB v54 false (ap v58 r57.2)).bind fun v59 =>
 bE (ap v58 r52.2) (ap v58 r57.2) <|
 CE v54 false  [.n, .f 5] v59 fun v60 =>
 (gB v54 false (ap v60 r57.2)).bind fun v61 =>
 bE (ap v60 r52.2) (ap v60 r57.2) <|
 CE v54 false  [.n, .f 2] v61 fun v62 =>
 (gB v54 false (ap v62 r57.2)).bind fun v63 =>
 bE (ap v62 r52.2) (ap v62 r57.2) <|
 (tX (yv v54) false (dt v63 some) (some undef)).bind fun v64 =>
 bE (aaR v63) (aaR v63) <|
 (gB v54 false (aj .other .neq r57.1 v64)).bind fun v65 =>
 (aH v54 (vb true) v65).bind fun v66 =>
 au v66
 (some (Value.tuple #[(vb false), (vb false)], r57.2))
 ((aj .other .add x15 (vi 1)).bind fun v67 =>
 au r45.1
 (st 1 [.a 4 1 x17] x13 (.pointer none) r57.2 fun H68 =>
 tM x1 x2 x3 x4 x5 x10 x11 x12 x13 x14 v67 x16 H68)
 (tM x1 x2 x3 x4 x5 x10 x11 x12 x13 x14 v67 x16 r57.2)) :=
 (by kernel_rfl)
theorem AX : Pi x1 x2 x3 x4 x5 x10 x11 x12 x13 x14 x15 x16 x17 H =
 ld [.a 4 1 x17] x13 H fun v69 =>
 (aj .ptr .eql v69 (.pointer none)).bind fun v70 =>
 au v70
 (ld [.i 1 x17] x1 H fun v71 =>
 ld [.a 4 1 x17] x14 H fun v72 =>
 ldN 4 [.i 4 v72] v71 H fun v73 =>
 aS [(vi 0), (vi 0), (vi 0), (vi 0)] H fun v74 H75 =>
 (cZ 4 v74 v73 H75).bind fun H76 =>
 (ax 2 x5 H76).bind fun v77 =>
 ld [.a 4 1 x17] x14 H76 fun v78 =>
 (FF iC [v77, x17, v78] H76).bind fun r79 =>
 ld [.f 0] x5 r79.2 fun v80 =>
 (ax 4 v74 r79.2).bind fun v81 =>
 (FF vN [v80, x17, v81] r79.2).bind fun r82 =>
 ad [.f 1] x5 fun v83 =>
 (ap v83 r82.2).bind fun v84 =>
 bE (ap v83 r79.2) (ap v83 r82.2) <|
 (ax 4 v74 r82.2).bind fun v85 =>
 bE (ax 4 v74 r79.2) (ax 4 v74 r82.2) <|
 (FF lZ [v84, x17, v85] r82.2).bind fun r86 =>
 st 1 [.a 4 1 x17] x12 r82.1 r86.2 fun H87 =>
 st 1 [.a 4 1 x17] x13 r86.1 H87 fun H88 =>
 ld [.a 4 1 x17] x14 H88 fun v89 =>
 (aj .other .add v89 (vi 1)).bind fun v90 =>
 st 1 [.a 4 1 x17] x14 v90 H88 fun H91 =>
 ld [.a 4 1 x17] x12 H91 fun v92 =>
 (aj .ptr .eql v92 (.pointer none)).bind fun v93 =>
 au v93
 (some (Value.tuple #[(vb false), (vb false)], H91))
 (zg x1 x2 x3 x4 x5 x10 x11 x12 x13 x14 x15 x16 x17 H91))
 (zg x1 x2 x3 x4 x5 x10 x11 x12 x13 x14 x15 x16 x17 H) :=
 (pt rfl 0 Sg (by kernel_rfl))
theorem Gl : qu x1 x2 x3 x4 x5 x10 x11 x12 x13 x14 x15 x16 H = tM x1 x2 x3 x4 x5 x10 x11 x12 x13 x14 x15 x16 H :=
 (by kernel_rfl)
theorem Lv : tN x1 x2 x3 x4 x5 x10 x11 x12 x13 x14 x15 x16 x17 H =
 ld [.a 4 1 x17] x13 H fun v94 =>
 (aj .ptr .eql v94 (.pointer none)).bind fun v95 =>
 (gV v95 true x17).bind fun v96 =>
 (gV v95 true x1).bind fun v97 =>
 (tX (yv v95) true (dt v97 some) (some undef)).bind fun v98 =>
 (gB v95 true (aj .other .geq v96 v98)).bind fun v99 =>
 (gV v95 true v99).bind fun v100 =>
 (gV v100 false x17).bind fun v101 =>
 ed v100 false  [.a 4 1 v101] x14 H fun v102 =>
 (gV v100 false x1).bind fun v103 =>
 (gV v100 false x17).bind fun v104 =>
 ed v100 false  [.i 1 v104] v103 H fun v105 =>
 (tX (yv v100) false (dt v105 some) (some undef)).bind fun v106 =>
 (gB v100 false (aj .other .geq v102 v106)).bind fun v107 =>
 (gB v95 true (aH v100 (vb true) v107)).bind fun v108 =>
 (aH v95 v108 (vb false)).bind fun v109 =>
 au v109
 (qu x1 x2 x3 x4 x5 x10 x11 x12 x13 x14 x15 x16 H)
 (Pi x1 x2 x3 x4 x5 x10 x11 x12 x13 x14 x15 x16 x17 H) :=
 (pt rfl 0 Sf (by kernel_rfl))
theorem Lu : Ph x1 x2 x3 x4 x5 x10 x11 x12 x13 x14 x15 x16 x17 H =
 dt x2 fun v110 =>
 (aj .other .lss x16 v110).bind fun v111 =>
 au v111
 (ld [.i 1 x16] x2 H fun v112 =>
 (FF a9 [v112, (vi 9)] H).bind fun r113 =>
 (aj .other .eql r113.1 (vi 8)).bind fun v114 =>
 (gV v114 true x4).bind fun v115 =>
 (aH v114 v115 (vb false)).bind fun v116 =>
 au v116
 ((ax 2 x5 r113.2).bind fun v117 =>
 ld [.i 1 x16] x2 r113.2 fun v118 =>
 (aj .other .quo v118 (vi 9)).bind fun v119 =>
 (aj .other .add v119 x16).bind fun v120 =>
 (FF yd [v117, v120] r113.2).bind fun r121 =>
 (pr .not r121.1).bind fun v122 =>
 au v122
 (some (Value.tuple #[(vb false), (vb false)], r121.2))
 (qu x1 x2 x3 x4 x5 x10 x11 x12 x13 x14 x15 x16 r121.2))
 ((aj .other .rem r113.1 (vi 4)).bind fun v123 =>
 tN x1 x2 x3 x4 x5 x10 x11 x12 x13 x14 x15 x16 v123 r113.2))
 (tN x1 x2 x3 x4 x5 x10 x11 x12 x13 x14 x15 x16 x17 H) :=
 (pt rfl 0 Se (by kernel_rfl))
theorem Ls : Pg x1 x2 x3 x4 x5 x10 x11 x12 x13 x14 x15 x16 H =
 (aj .other .rem x16 (vi 4)).bind fun v124 =>
 Ph x1 x2 x3 x4 x5 x10 x11 x12 x13 x14 x15 x16 v124 H :=
 (pt rfl 0 jP (bt rfl (fD [1, 1, 1, 1, 1, 0, 1, 4, 5, 1, 0, 4]) 1 mz (pt rfl 0 Sd (by kernel_rfl))))
theorem Gk : DQ x1 x10 x11 x13 x14 H = Lq x1 x10 x11 x13 x14 H :=
 (by kernel_rfl)
theorem AW : zf x1 x2 x3 x4 x5 x10 x11 x12 x13 x14 x15 x16 H =
 (aj .other .lss x16 x3).bind fun v125 =>
 au v125
 (Pg x1 x2 x3 x4 x5 x10 x11 x12 x13 x14 x15 x16 H)
 (DQ x1 x10 x11 x13 x14 H) :=
 xS rfl qr (pt rfl 0 Sc (by kernel_rfl))
theorem Lr : Pf x1 x2 x3 x4 x5 x10 x11 x12 x13 x14 x15 x16 H =
 zf x1 x2 x3 x4 x5 x10 x11 x12 x13 x14 x15 x16 H :=
 (bt rfl (fD [1, 1, 1, 1, 1, 0, 1, 4]) 0 my (li rfl (fD [1, 1, 1, 1, 1, 0, 1, 4, 5]) qr (by kernel_rfl)))
theorem SM : Xf x1 x2 x3 x4 x5 x10 x11 x12 x13 x14 x15 H =
 Pf x1 x2 x3 x4 x5 x10 x11 x12 x13 x14 x15 (vi 0) H :=
 (pt rfl 0 Ax (pt rfl 0 Sb (by kernel_rfl)))
noncomputable def lTu : OV := aQ PP GG FF (fD []) (ls [x0, x1, x2, x3, x4] 188) H fS bv fS
theorem adO {r : Value × AH} (h : (
 aS (Value.cells x0).toList H fun v126 H127 =>
 aS [(.pointer none), (.pointer none), (.pointer none), (.pointer none)] H127 fun v128 H129 =>
 aS [(.pointer none), (.pointer none), (.pointer none), (.pointer none)] H129 fun v130 H131 =>
 aS [(vi 0), (vi 0), (vi 0), (vi 0)] H131 fun v132 H133 =>
 Xf x1 x2 x3 x4 v126 (vb false) (vb false) v128 v130 v132 (vi 0) H133) = some r) : FF Pp [x0, x1, x2, x3, x4] H = some r :=
 fo (t := lTu x0 x1 x2 x3 x4 H) Tryz.func33 (by kernel_rfl) (Eq.trans (pt rfl 4 V7 (by kernel_rfl)) h)
noncomputable def nS (p : List Nat) : Code := Code.sub (bw Tryz.f34) p
noncomputable def mA : KK := dV PP (Tryz.f34).results.toList
noncomputable def Wf : KK := CQ (nS [1, 1]) mA bv mA
noncomputable def q8 : OV := Wf (ls [x0, x1, u, u, x4, x5] 50) H
noncomputable def K4 : KK := CQ (nS [1, 1, 1]) mA bv mA
noncomputable def Wd : KK := dT 72057594037927887 K4
noncomputable def q9 : OV := K4 (ls [u, u, u, u, x4, x5] 50) H
noncomputable def Wh : KK := CQ (nS [1, 1, 0, 1]) Wd bv mA
noncomputable def re : OV := Wh (ls [x0, x1, u, u, x4, x5, x6] 49) H
noncomputable def K7 : KX := BX 0 Wd bv
noncomputable def F5 : KX := ou 72057594037927887 K7
noncomputable def K5 : KK := xD (nS [1, 1, 0, 1, 4, 5]) F5 mA
noncomputable def We : KK := dT 72057594037927820 K5
noncomputable def iQ : OV := K5 (ls [x0, x1, u, u, x4, x5, x6] 49) H
noncomputable def Wj : KK := CQ (nS [1, 1, 0, 1, 4, 5, 1]) We F5 mA
noncomputable def rg : OV := Wj (ls [x0, x1, u, u, x4, x5, x6] 49) H
noncomputable def K6 : KK := CQ (nS [1, 1, 0, 1, 4, 5, 1, 1]) We F5 mA
noncomputable def KZ : KK := dT 72057594037927820 K6
noncomputable def rh : OV := K6 (ls [x0, x1, u, u, x4, x5, x6] 49) H
noncomputable def Wo : KX := BX 1 KZ F5
noncomputable def Wp : KX := ou 72057594037927820 Wo
noncomputable def Wm : KK := CQ (nS [1, 1, 0, 1, 4, 5, 1, 0, 4, 1, 1]) KZ Wp mA
noncomputable def ri : OV := Wm (ls [x0, x1, u, u, x4, x5, x6, x7] 48) H
noncomputable def OT : KK := CQ (nS [1, 1, 0, 1, 4, 5, 1, 0, 4, 1, 1, 1]) KZ Wp mA
noncomputable def gQ : OV := OT (ls [x0, x1, u, u, x4, x5, x6, x7] 48) H
noncomputable def fZ : OV := K7 0 (ls [u, u, u, u, x4, x5] 50) H
theorem iO : aq 72057594037927919 mA := rf
theorem Wg : aq 72057594037927884 Wf := rc iO aA iO
theorem Az : aq 72057594037927887 K4 := rc iO aA iO
theorem Wi : aq 72057594037927820 Wh := rc (cd Az) aA iO
theorem oQ : ∀ i, aq 72057594037927887 (K7 i) := rb (cd Az) aA
theorem tu : aq 72057594037927820 K5 := rl (cx oQ) iO
theorem Wl : aq 72057594037927820 Wj := rc (cd tu) (cx oQ) iO
theorem tv : aq 72057594037927820 K6 := rc (cd tu) (cx oQ) iO
theorem AA : ∀ i, aq 72057594037927820 (Wo i) := rb (cd tv) (cx oQ)
theorem Wn : aq 72057594037927692 Wm := rc (cd tv) (cx AA) iO
theorem Sh : aq 72057594037927692 OT := rc (cd tv) (cx AA) iO
theorem mF : q9 x4 x5 H =
 some (x5, H) :=
 (by kernel_rfl)
theorem vF : rh x0 x1 x4 x5 x6 H =
 (aj .other .add x6 (vi 1)).bind fun v7 =>
 iQ x0 x1 x4 x5 v7 H :=
 (by kernel_rfl)
theorem tK : gQ x0 x1 x4 x5 x6 x7 H =
 st 1 [.f 3] x7 x6 H fun H11 =>
 (aj .other .rem x6 (vi 4)).bind fun v12 =>
 (aj .other .rem x6 (vi 4)).bind fun v13 =>
 ld [.i 1 v13] x5 H11 fun v14 =>
 (ax 4 x7 H11).bind fun v15 =>
 sK 1 4 [(vi 0), (vi 0), (vi 0), (vi 0)] [(0, v15)] H11 fun v16 H17 =>
 (cO 4 32 v14 v16 H17).bind fun r18 =>
 st 1 [.i 1 v12] x5 r18.1 r18.2 fun H19 =>
 rh x0 x1 x4 x5 x6 H19 :=
 (by kernel_rfl)
theorem vG : ri x0 x1 x4 x5 x6 x7 H =
 ld [.i 4 x6, .f 2] x0 H fun v20 =>
 (FF a9 [v20, (vi 5)] H).bind fun r21 =>
 (aj .other .gtr r21.1 (vi 0)).bind fun v22 =>
 au v22
 (ld [.i 4 x6, .f 2] x0 r21.2 fun v23 =>
 (FF a9 [v23, (vi 9)] r21.2).bind fun r24 =>
 (aj .other .add (vi 1) r24.1).bind fun v25 =>
 st 1 [.f 2] x7 v25 r24.2 fun H26 =>
 gQ x0 x1 x4 x5 x6 x7 H26)
 (gQ x0 x1 x4 x5 x6 x7 r21.2) :=
 (pt rfl 0 Sh (by kernel_rfl))
theorem vE : rg x0 x1 x4 x5 x6 H =
 ldN 4 [.i 4 x6] x0 H fun v27 =>
 (FF pe [v27] H).bind fun r28 =>
 aS [(vi 0), (vi 0), (vi 0), (vi 0)] r28.2 fun v29 H30 =>
 (cZ 4 v29 r28.1 H30).bind fun H31 =>
 st 1 [.f 0] v29 (vi 3) H31 fun H32 =>
 ri x0 x1 x4 x5 x6 v29 H32 :=
 (pt rfl 0 tv (bt rfl (nS [1, 1, 0, 1, 4, 5, 1, 0, 4]) 1 AA (pt rfl 1 Wn (by kernel_rfl))))
theorem kA : fZ x4 x5 H = q9 x4 x5 H :=
 (by kernel_rfl)
theorem mG : iQ x0 x1 x4 x5 x6 H =
 dt x0 fun v33 =>
 (aj .other .lss x6 v33).bind fun v34 =>
 (gV v34 true x6).bind fun v35 =>
 (gV v34 true x1).bind fun v36 =>
 (gB v34 true (aj .other .lss v35 v36)).bind fun v37 =>
 (aH v34 v37 (vb false)).bind fun v38 =>
 au v38
 (rg x0 x1 x4 x5 x6 H)
 (fZ x4 x5 H) :=
 xS rfl tu (pt rfl 0 Wl (by kernel_rfl))
theorem vD : re x0 x1 x4 x5 x6 H =
 iQ x0 x1 x4 x5 x6 H :=
 (bt rfl (nS [1, 1, 0, 1, 4]) 0 oQ (li rfl (nS [1, 1, 0, 1, 4, 5]) tu (by kernel_rfl)))
theorem vC : q8 x0 x1 x4 x5 H =
 re x0 x1 x4 x5 (vi 0) H :=
 (pt rfl 0 Az (pt rfl 0 Wi (by kernel_rfl)))
noncomputable def Lp : OV := aQ PP GG FF (nS []) (ls [x0, x1] 54) H mA bv mA
theorem CF {r : Value × AH} (h : (
 (kL [(.slice none 0 0)] 1 24 (vi 4) (vi 4) H).bind fun r39 =>
 q8 x0 x1 (.slice none 0 0) r39.1 r39.2) = some r) : FF jG [x0, x1] H = some r :=
 fo (t := Lp x0 x1 H) Tryz.func34 (by kernel_rfl) (Eq.trans (pt rfl 1 Wg (by kernel_rfl)) h)
end
def qH (LL : List (mY × List Cl)) (n : Nat) : Prop := ∀ k q, LL[k]? = some q → 4 * q.2.length ≤ n + 3 - k ∧ ∀ c ∈ q.2, c.op = 3
theorem qH.mono {LL : List (mY × List Cl)} {n m : Nat} (h : qH LL n) (hn : n ≤ m) : qH LL m := fun k q hq => by
 have := h k q hq;exact ⟨by omega, this.2⟩
theorem qH.nil : qH [((none, 0, 0), []), ((none, 0, 0), []), ((none, 0, 0), []), ((none, 0, 0), [])] 0 := fun k q hq => by
 have hm := List.mem_of_getElem? hq;simp only [List.mem_cons, List.not_mem_nil, or_false] at hm
 rcases hm with rfl | rfl | rfl | rfl <;> exact ⟨Nat.zero_le _, fun c hc => by cases hc⟩
theorem qH.snoc {LL : List (mY × List Cl)} {i : Nat} (h : qH LL i) (hw : i % 4 < LL.length) (s : mY) (c : Cl) (hc : c.op = 3) : qH (LL.set (i % 4) (s, LL[i % 4].2 ++ [c])) (i + 1) := fun k q hq => by
 by_cases e : k = i % 4
 ·subst e
  rw [List.getElem?_set_self hw] at hq;have hq := eu hq;subst hq;obtain ⟨h1, h2⟩ := h _ _ (bu hw);refine ⟨?_, fun c' hc' => ?_⟩
  ·show 4 * (LL[i % 4].2 ++ [c]).length ≤ _
   rw [mH, List.length_singleton];omega
  ·rcases List.mem_append.1 hc' with hc' | hc'
   ·exact h2 c' hc'
   ·rw [List.mem_singleton.1 hc']; exact hc
 ·rw [List.getElem?_set_ne (fun h => e h.symm)] at hq
  obtain ⟨h1, h2⟩ := h k q hq;exact ⟨by omega, h2⟩
theorem adS {P : SP} {H : AH} {s : Value} {L : List Cl} [hR : Rd P s 4 Cl.cells L] (most : Nat) (hm : most < 1000) {k : Value × AH → OV} {Q : Value → AH → Prop} (h : ac P H)
 (hk : ∀ (b : Nat) (LL : List (mY × List Cl)) (H' : AH), LL.length = 4 → qH LL most → ac (ts 1 b6 (vs b 4 1) (bM LL) * (du LL * P)) H' → wp (k (vs b 4 1, H')) Q) :
 wp ((FF jG [s, vi (most : Int)] H).bind k) Q := by
 have law : Sp jG [s, vi (most : Int)] P (fun g : Nat × List (mY × List Cl) => vs g.1 4 1) (fun g => pu (g.2.length = 4 ∧ qH g.2 most) * (ts 1 b6 (vs g.1 4 1) (bM g.2) * (du g.2 * P))) := by
  refine aU (CF _ _) fun R H h => ?_;refine Hj (n := 4) (enc := b6) ((none, 0, 0) : mY) h rfl (by unfold room; omega) (by omega) fun b H1 h1 => ?_;refine ag (vC ..) ?_;refine ag (vD ..) ?_;have loop : ∀ (d i : Nat) (LL : List (mY × List Cl)) (H : AH), most - i = d → i ≤ most → LL.length = 4 → qH LL i → ac (ts 1 b6 (vs b 4 1) (bM LL) * (du LL * (P * R))) H →
   wp (iQ s (vi (most : Int)) (.slice none 0 0) (vs b 4 1) (vi (i : Int)) H) fun v' H' => ∃ g : Nat × List (mY × List Cl), v' = vs g.1 4 1 ∧ ac (pu (g.2.length = 4 ∧ qH g.2 most) * (ts 1 b6 (vs g.1 4 1) (bM g.2) * (du g.2 * P)) * R) H' := by
   intro d
   induction d with
   | zero =>
    intro i LL H hd hi h4 hq hh
    have out : wp (fZ (.slice none 0 0) (vs b 4 1) H) fun v' H' => ∃ g : Nat × List (mY × List Cl), v' = vs g.1 4 1 ∧ ac (pu (g.2.length = 4 ∧ qH g.2 most) * (ts 1 b6 (vs g.1 4 1) (bM g.2) * (du g.2 * P)) * R) H' := by
     refine ag (kA ..) ?_;refine ag (mF ..) ?_;refine am ⟨(b, LL), rfl, ?_⟩;rw [ak, ac.pu];exact ⟨⟨h4, hq.mono hi⟩, hh.to⟩
    refine ag (mG ..) ?_;refine cw (s := s) (l := L) hh ?_
    by_cases hl : i < L.length
    ·refine aa (cy (by omega)) ?_
     refine gs ?_;refine aa (bF (by omega)) ?_;refine gs ?_;exact out
    ·refine aa (bF (by omega)) ?_
     refine gs ?_;exact out
   | succ d ih =>
    intro i LL H hd hi h4 hq hh
    have out : wp (fZ (.slice none 0 0) (vs b 4 1) H) fun v' H' => ∃ g : Nat × List (mY × List Cl), v' = vs g.1 4 1 ∧ ac (pu (g.2.length = 4 ∧ qH g.2 most) * (ts 1 b6 (vs g.1 4 1) (bM g.2) * (du g.2 * P)) * R) H' := by
     refine ag (kA ..) ?_;refine ag (mF ..) ?_;refine am ⟨(b, LL), rfl, ?_⟩;rw [ak, ac.pu];exact ⟨⟨h4, hq.mono hi⟩, hh.to⟩
    refine ag (mG ..) ?_;refine cw (s := s) (l := L) hh ?_
    by_cases hl : i < L.length
    case neg =>
     refine aa (bF (by omega)) ?_;refine gs ?_;exact out
    refine aa (cy (by omega)) ?_;refine gs ?_;refine aa (cy (by omega)) ?_;refine gs ?_;refine ag (vE ..) ?_;refine Ce (s := s) (l := L) hh hl ?_;refine af hh (Ta L[i]) fun y H2 h2 => ?_;refine bk h2 fun cb H3 h3 => ?_;refine fW h3 rfl rfl fun H4 h4' => ?_;refine bh h4' aB rfl rfl fun H5 h5 => ?_;refine ag (vG ..) ?_;refine fN (s := s) (l := L) (v := vi L[i].a) h5 hl (by omega) rfl ?_;refine MS h5 (by omega) (by omega) fun H6 h6 => ?_;have tail : ∀ (z : Cl) (H : AH), z.op = 3 → ac (blk cb (.cells false (Cl.cells z)) * (ts 1 b6 (vs b 4 1) (bM LL) * (du LL * (P * R)))) H →
     wp (gQ s (vi (most : Int)) (.slice none 0 0) (vs b 4 1) (vi (i : Int)) (vp cb) H) fun v' H' => ∃ g : Nat × List (mY × List Cl), v' = vs g.1 4 1 ∧ ac (pu (g.2.length = 4 ∧ qH g.2 most) * (ts 1 b6 (vs g.1 4 1) (bM g.2) * (du g.2 * P)) * R) H' := by
     intro z H hz3 hz
     have hw4 : i % 4 < LL.length := by omega
     have hhl : (bM LL).length = LL.length := by simp [bM]
     refine ag (tK ..) ?_;refine bh hz aB rfl rfl fun H7 h7 => ?_;refine aa (jw (by omega)) ?_;refine aa (jw (by omega)) ?_;rw [show (i : Int).tmod 4 = ((i % 4 : Nat) : Int) from by rw [aaP (by omega)]; omega];refine Y0 (s := vs b 4 1) (l := bM LL) (i := i % 4) (v := ij LL[i % 4].1) h7 (by omega) (by simp [bM]) ?_;refine aT h7 ?_;refine Ht h7 fun rb H8 h8 => ?_;obtain ⟨Rr, e1, e2⟩ := tO hw4;have hql := (hq (i % 4) _ (bu hw4)).1;rw [e1] at h8;refine eA (s := ij LL[i % 4].1) (l := LL[i % 4].2) (⟨z.op, z.flow, z.a, (i : Int)⟩ : Cl) h8 rfl ?_ (by omega) fun a c H9 h9 => ?_
     ·unfold room; omega
     refine Er (s := vs b 4 1) (l := bM LL) (i := i % 4) ((a, LL[i % 4].2.length + 1, c) : mY) h9 (by omega) (.inl ⟨rfl, rfl⟩) rfl (by omega) rfl rfl fun H10 h10 => ?_;refine ag (vF ..) ?_;refine aa (aJ (by omega) (by omega)) ?_;rw [show ((i : Nat) : Int) + 1 = ((i + 1 : Nat) : Int) from by omega]
     have eh : bM (LL.set (i % 4) ((a, LL[i % 4].2.length + 1, c), LL[i % 4].2 ++ [⟨z.op, z.flow, z.a, (i : Int)⟩])) = (bM LL).set (i % 4) (a, LL[i % 4].2.length + 1, c) := by
      simp [bM, List.map_set]
     refine ih (i + 1) (LL.set (i % 4) ((a, LL[i % 4].2.length + 1, c), LL[i % 4].2 ++ [⟨z.op, z.flow, z.a, (i : Int)⟩])) H10 (by omega) (by omega) (by rw [Gj]; exact h4) (hq.snoc hw4 _ _ hz3) ?_;rw [eh, e2];exact h10.to
    by_cases hg : 0 < dF L[i].a 5
    ·refine aa (w6 hg) ?_
     refine gs ?_;refine fN (s := s) (l := L) (v := vi L[i].a) h6 hl (by omega) rfl ?_;refine MS h6 (by omega) (by omega) fun H7 h7 => ?_;have m9 := eF (v := L[i].a) (n := 9) (by omega);refine aa (aJ (by omega) (by omega)) ?_;refine bh h7 aB rfl rfl fun H8 h8 => ?_;exact tail ⟨3, y.flow, 1 + dF L[i].a 9, y.b⟩ H8 rfl h8.to
    ·refine aa (gO hg) ?_
     refine gs ?_;exact tail ⟨3, y.flow, y.a, y.b⟩ H6 rfl h6.to
  refine loop most 0 [((none, 0, 0), []), ((none, 0, 0), []), ((none, 0, 0), []), ((none, 0, 0), [])] H1 rfl (Nat.zero_le _) rfl qH.nil ?_;have z := cK 4 Cl.cells (cK 4 Cl.cells (cK 4 Cl.cells (cK 4 Cl.cells h1)));show ac (ts 1 b6 (vs b 4 1) (List.replicate 4 ((none, 0, 0) : mY)) * ((ts 4 Cl.cells (.slice none 0 0) [] * (ts 4 Cl.cells (.slice none 0 0) [] * (ts 4 Cl.cells (.slice none 0 0) [] * (ts 4 Cl.cells (.slice none 0 0) [] * emp)))) * (P * R))) H1;exact z.to
 obtain ⟨⟨b, LL⟩, H', e, h'⟩ := law emp H (by rw [dB]; exact h);rw [e];rw [dB, ac.pu] at h';exact hk b LL H' h'.1.1 h'.1.2 h'.2
def wkE (p x : Nat) (rp : List Nat) : Wk → SP
 | none => emp
 | some q => eT q.1 p rp q.2.2 * xT q.2.1 x q.2.2
def Uo (p x : Nat) (rp : List Nat) : List Wk → SP
 | [] => emp
 | q :: l => wkE p x rp q * Uo p x rp l
theorem Es (p x : Nat) (rp : List Nat) : ∀ {ws : List Wk} {i : Nat} (h : i < ws.length), ∃ R, Uo p x rp ws = wkE p x rp ws[i] * R ∧ ∀ q, Uo p x rp (ws.set i q) = wkE p x rp q * R := by
 intro ws
 induction ws with
 | nil => intro i h; simp at h
 | cons q ws ih =>
  intro i h
  cases i with
  | zero => exact ⟨Uo p x rp ws, rfl, fun q => rfl⟩
  | succ i =>
   obtain ⟨R, e1, e2⟩ := ih (i := i) (by simpa using h);refine ⟨wkE p x rp q * R, ?_, fun q' => ?_⟩
   ·show wkE p x rp q * Uo p x rp ws = _
    rw [e1, bo]; rfl
   ·show wkE p x rp q * Uo p x rp (ws.set i q') = _
    rw [e2, bo]
def WkE (σ : aE) (q : Wk) (ev xv : Value) : Prop := match q with
 | none => xv = .pointer none
 | some q => ev = vp q.1 ∧ xv = vp q.2.1 ∧ eM σ q.2.2
structure Zn (σ : aE) (ws : List Wk) (ev xv : List Value) (ats : List Nat) : Prop where
 l : ws.length = 4
 el : ev.length = 4
 xl : xv.length = 4
 al : ats.length = 4
 r : ∀ w (h : w < 4), WkE σ (ws[w]'(by omega)) (ev[w]'(by omega)) (xv[w]'(by omega))
theorem WkE.mono {σ σ' : aE} {q : Wk} {ev xv : Value} (h : WkE σ q ev xv) (hc : σ'.c = σ.c) (ho : σ'.obs.length = σ.obs.length) : WkE σ' q ev xv := by
 cases q with
 | none => exact h
 | some q => exact ⟨h.1, h.2.1, h.2.2.mono hc ho⟩
theorem Zn.mono {σ σ' : aE} {ws : List Wk} {ev xv : List Value} {ats : List Nat} (h : Zn σ ws ev xv ats) (hc : σ'.c = σ.c) (ho : σ'.obs.length = σ.obs.length) : Zn σ' ws ev xv ats :=
 ⟨h.l, h.el, h.xl, h.al, fun w hw => (h.r w hw).mono hc ho⟩
theorem Zn.set {σ : aE} {ws : List Wk} {ev xv : List Value} {ats : List Nat} (h : Zn σ ws ev xv ats) {w : Nat} (hw : w < 4) {q : Wk} {e2 x2 : Value} (a : Nat) (hq : WkE σ q e2 x2) : Zn σ (ws.set w q) (ev.set w e2) (xv.set w x2) (ats.set w a) := by
 refine ⟨by simp [h.l], by simp [h.el], by simp [h.xl], by simp [h.al], fun w' hw' => ?_⟩;rw [List.getElem_set, List.getElem_set, List.getElem_set]
 by_cases e : w = w'
 ·rw [if_pos e, if_pos e, if_pos e]; exact hq
 ·rw [if_neg e, if_neg e, if_neg e]; exact h.r w' hw'
section
variable (p x pb eb xb ab : Nat) (rp : List Nat) (lb : Nat) (LL : List (mY × List Cl)) (pv : Value) (picks : List Int) (blows : Bool) (most : Nat)
abbrev Zm (σ : aE) (ws : List Wk) (ev xv : List Value) (ats : List Nat) (R : SP) : SP :=
 blk pb (.cells false [vp p, vp x]) * (blk eb (.cells false ev) * (blk xb (.cells false xv) * (blk ab (.cells false (ats.map fun (n : Nat) => vi (n : Int))) * (bT p rp σ * (bC x σ * (Uo p x rp ws * (ts 1 b6 (vs lb 4 1) (bM LL) * (du LL * R))))))))
variable (J : Nat → aE → List Wk → List Nat → Prop)
def acZ (ws : List Wk) (ats : List Nat) : Prop := ∀ w, w < 4 → ws[w]? = some none ∧ ∀ q, LL[w]? = some q → ∀ a, ats[w]? = some a → q.2.length ≤ a
def Uz (R : SP) (v' : Value) (H' : AH) : Prop := ∃ (b : Bool) (σ' : aE) (ws' : List Wk) (ats' : List Nat), v' = .tuple #[vb b, vb true] ∧ SI σ' 60000 ∧ J most σ' ws' ats' ∧ (b = true ↔ acZ LL ws' ats') ∧ ac (bT p rp σ' * (bC x σ' * R)) H'
theorem MQ (hL : LL.length = 4) {R : SP} {σ : aE} {ws : List Wk} {ev xv : List Value} {ats : List Nat} {H : AH} (S : SI σ 60000) (hJ : J most σ ws ats) (W : Zn σ ws ev xv ats)
 (h : ac (Zm p x pb eb xb ab rp lb LL σ ws ev xv ats R) H) (x10 x11 : Value) :
 wp (Lq (vs lb 4 1) x10 x11 (vp xb) (vp ab) H) (Uz p x rp LL most J R) := by
 have hhl : (bM LL).length = 4 := by simp [bM, hL]
 have fin : ∀ b : Bool, (b = true ↔ acZ LL ws ats) → Uz p x rp LL most J R (.tuple #[vb b, vb true]) H := fun b hb => ⟨b, σ, ws, ats, rfl, S, hJ, hb, h.to⟩;refine ag (SN ..) ?_;refine ag (SQ ..) ?_
 have loop : ∀ (d w : Nat), w + d = 4 → (∀ k, k < w → ws[k]? = some none ∧ ∀ q, LL[k]? = some q → ∀ a, ats[k]? = some a → q.2.length ≤ a) → wp (Gm (vs lb 4 1) x10 x11 (vp xb) (vp ab) (vi (w : Int)) H) (Uz p x rp LL most J R) := by
  intro d
  induction d with
  | zero =>
   intro w hw hall;refine ag (DR ..) ?_;refine aa (bF (by omega)) ?_;refine gs ?_;refine ag (IE ..) ?_;refine ag (SO ..) ?_;exact am (fin true ⟨fun _ k hk => hall k (by omega), fun _ => rfl⟩)
  | succ d ih =>
   intro w hw hall
   have hw4 : w < 4 := by omega
   have hwL : w < LL.length := by omega
   refine ag (DR ..) ?_;refine aa (cy (by omega)) ?_;refine gs ?_;refine fC (s := vs lb 4 1) (l := bM LL) h ?_;refine gs ?_;refine aa (cy (by omega)) ?_;refine gs ?_;refine ag (SR ..) ?_;refine mV (v := xv[w]'(by rw [W.xl]; exact hw4)) h hw4 (bu _) ?_;have wr := W.r w hw4
   have next : (ws[w]? = some none ∧ ∀ q, LL[w]? = some q → ∀ a, ats[w]? = some a → q.2.length ≤ a) → wp (Lx (vs lb 4 1) x10 x11 (vp xb) (vp ab) (vi (w : Int)) H) (Uz p x rp LL most J R) := by
    intro hthis;refine ag (SS ..) ?_;refine aa (aJ (by omega) (by omega)) ?_;refine ih (w + 1) (by omega) fun k hk => ?_
    by_cases e : k = w
    ·subst e; exact hthis
    ·exact hall k (by omega)
   have hwl : w < ws.length := by rw [W.l]; exact hw4
   have hal : w < ats.length := by rw [W.al]; exact hw4
   cases hq : ws[w]'(by rw [W.l]; exact hw4) with
   | some q =>
    rw [hq] at wr;rw [show xv[w]'(by rw [W.xl]; exact hw4) = vp q.2.1 from wr.2.1];refine aa (aaY _) ?_;refine gs ?_
    exact am (fin false ⟨(fun h => by cases h), fun h => by
     have := (h w hw4).1;rw [bu hwl, hq] at this
     cases this⟩)
   | none =>
    rw [hq] at wr;rw [show xv[w]'(by rw [W.xl]; exact hw4) = .pointer none from wr];refine aa (XG) ?_;refine gs ?_;refine mV (v := vi (ats[w]'(by rw [W.al]; exact hw4) : Nat)) h hw4 (by rw [vH, bu (by rw [W.al]; exact hw4)]; rfl) ?_;refine gs ?_;refine da (s := vs lb 4 1) (l := bM LL) (i := w) (v := ij (LL[w]'hwL).1) h (by omega) (by simp [bM]) ?_;refine gs ?_
    haveI := DS (LL := LL) (i := w) hwL
    refine fC (s := ij (LL[w]'hwL).1) (l := (LL[w]'hwL).2) h ?_;refine gs ?_
    by_cases hlt : ats[w]'(by rw [W.al]; exact hw4) < (LL[w]'hwL).2.length
    ·refine aa (cy (by omega)) ?_
     refine gs ?_
     exact am (fin false ⟨(fun h => by cases h), fun h => by
      have := (h w hw4).2 _ (bu hwL) _ (bu hal)
      omega⟩)
    ·refine aa (bF (by omega)) ?_
     refine gs ?_;refine next ⟨by rw [bu hwl, hq], fun q hq2 a ha2 => ?_⟩;rw [bu hwL] at hq2;rw [bu hal] at ha2;cases hq2;cases ha2;omega
 exact loop 4 0 rfl fun k hk => by omega
end
section
variable (p x pb eb xb ab : Nat) (rp : List Nat) (lb : Nat) (LL : List (mY × List Cl)) (pv : Value) (picks : List Int) (most : Nat) (J : Nat → aE → List Wk → List Nat → Prop) (x10 x11 : Value) (Z : SP)
variable (hL : LL.length = 4) (hQ : ∀ q ∈ LL, q.2.length ≤ 1000) (hm : most ≤ 4000) [hP : Rd Z pv 1 bH picks]
variable (hJs : ∀ (i : Nat) (σ : aE) (ws : List Wk) (ats : List Nat) (w : Nat) (q : Nat × Nat × Tk) (now : Int) (K : Nat), i < most → (picks.length ≤ i → w = i % 4) → K < 60000 → SI σ K → ws.length = 4 → ats.length = 4 → ws[w]? = some (some q) → eM σ q.2.2 → J i σ ws ats →
 J (i + 1) (ai σ q.2.2 now).1 (ws.set w (if (ai σ q.2.2 now).2.2 = true then none else some (q.1, q.2.1, (ai σ q.2.2 now).2.1))) ats)
variable (hJb : ∀ (i : Nat) (σ : aE) (ws : List Wk) (ats : List Nat) (w e xk : Nat) (L : mY × List Cl) (a : Nat) (hLw : LL[w]? = some L) (haw : ats[w]? = some a) (hal : a < L.2.length), b5 σ.c = true → ws.length = 4 → ats.length = 4 → ws[w]? = some none → J i σ ws ats → J i (σ.begin w a) (ws.set w (some (e, xk, Tk.new σ.c w L.2[a]))) (ats.set w (a + 1)))
variable (hJn : ∀ (i : Nat) (σ : aE) (ws : List Wk) (ats : List Nat) (w : Nat) (L : mY × List Cl) (a : Nat), (picks.length ≤ i → w = i % 4) → LL[w]? = some L → ats[w]? = some a → L.2.length ≤ a → ws.length = 4 → ws[w]? = some none → J i σ ws ats → J (i + 1) σ ws ats)
include hL hm hP hJs hJb hJn
theorem Ju : ∀ (d i K now : Nat) (σ : aE) (ws : List Wk) (ev xv : List Value) (ats : List Nat) (H : AH), i + d = most → SI σ K → K ≤ 16 + 12 * i → now ≤ i → Zn σ ws ev xv ats → (∀ a ∈ ats, a ≤ i) → J i σ ws ats →
 ac (Zm p x pb eb xb ab rp lb LL σ ws ev xv ats Z) H →
 wp (zf (vs lb 4 1) pv (vi (most : Int)) (vb false) (vp pb) x10 x11 (vp eb) (vp xb) (vp ab) (vi (now : Int)) (vi (i : Int)) H) (Uz p x rp LL most J Z) := by
 have hhl : (bM LL).length = 4 := by simp [bM, hL]
 intro d
 induction d with
 | zero =>
  intro i K now σ ws ev xv ats H hi S hK hnow W ha hJ h;refine ag (AW ..) ?_;refine aa (bF (by omega)) ?_;refine gs ?_;refine ag (Gk ..) ?_;exact MQ p x pb eb xb ab rp lb LL most J hL (S.mono (by omega)) (by rw [show most = i from by omega]; exact hJ) W h x10 x11
 | succ d ih =>
  intro i K now σ ws ev xv ats H hi S hK hnow W ha hJ h;refine ag (AW ..) ?_;refine aa (cy (by omega)) ?_;refine gs ?_;refine ag (Ls ..) ?_;refine aa (jw (by omega)) ?_
  -- what is next, whatever was done
  have next : ∀ (K' now' : Nat) (σ' : aE) (ws' : List Wk) (ev' xv' : List Value) (ats' : List Nat) (H' : AH), SI σ' K' → K' ≤ 16 + 12 * (i + 1) → now' ≤ i + 1 → Zn σ' ws' ev' xv' ats' → (∀ a ∈ ats', a ≤ i + 1) → J (i + 1) σ' ws' ats' →
   ac (Zm p x pb eb xb ab rp lb LL σ' ws' ev' xv' ats' Z) H' →
   wp (tM (vs lb 4 1) pv (vi (most : Int)) (vb false) (vp pb) x10 x11 (vp eb) (vp xb) (vp ab) (vi (now' : Int)) (vi (i : Int)) H') (Uz p x rp LL most J Z) := by
   intro K' now' σ' ws' ev' xv' ats' H' S' hK' hnow' W' ha' hJ' h';refine ag (Lt ..) ?_;refine aa (aJ (by omega) (by omega)) ?_;rw [show ((i : Nat) : Int) + 1 = ((i + 1 : Nat) : Int) from by omega];exact ih (i + 1) K' now' σ' ws' ev' xv' ats' H' (by omega) S' hK' hnow' W' ha' hJ' h'
  have skip : ∀ (H' : AH), J (i + 1) σ ws ats → ac (Zm p x pb eb xb ab rp lb LL σ ws ev xv ats Z) H' → wp (qu (vs lb 4 1) pv (vi (most : Int)) (vb false) (vp pb) x10 x11 (vp eb) (vp xb) (vp ab) (vi (now : Int)) (vi (i : Int)) H') (Uz p x rp LL most J Z) := by
   intro H' hJ' h';refine ag (Gl ..) ?_;exact next K now σ ws ev xv ats H' S (by omega) (by omega) W (fun a h2 => by have := ha a h2; omega) hJ' h'
  -- a step of one that is under way
  have step : ∀ (w : Nat) (hw : w < 4) (hpw : picks.length ≤ i → w = i % 4) (e xk : Nat) (t : Tk) (K1 : Nat) (σ1 : aE) (ws1 : List Wk) (ev1 xv1 : List Value) (ats1 : List Nat) (H1 : AH), SI σ1 K1 → K1 ≤ 16 + 12 * i + 1 → J i σ1 ws1 ats1 → (W1 : Zn σ1 ws1 ev1 xv1 ats1) → (∀ a ∈ ats1, a ≤ i + 1) →
   ws1[w]'(by rw [W1.l]; exact hw) = some (e, xk, t) → ac (Zm p x pb eb xb ab rp lb LL σ1 ws1 ev1 xv1 ats1 Z) H1 →
   wp (zg (vs lb 4 1) pv (vi (most : Int)) (vb false) (vp pb) x10 x11 (vp eb) (vp xb) (vp ab) (vi (now : Int)) (vi (i : Int)) (vi (w : Int)) H1) (Uz p x rp LL most J Z) := by
   intro w hw hpw e xk t K1 σ1 ws1 ev1 xv1 ats1 H1 S1 hK1 hJ1 W1 ha1 hwk h1
   have hwl : w < ws1.length := by rw [W1.l]; exact hw
   have wr := W1.r w hw;rw [hwk] at wr;obtain ⟨we0, wx0, wt0⟩ := wr;have we : ev1[w]'(by rw [W1.el]; exact hw) = vp e := we0;have wx : xv1[w]'(by rw [W1.xl]; exact hw) = vp xk := wx0;have wt : eM σ1 t := wt0;obtain ⟨Rw, es1, es2⟩ := Es p x rp hwl;rw [hwk] at es1;have es1' : Uo p x rp ws1 = eT e p rp t * xT xk x t * Rw := es1;have K2 := TV (now : Int) (by omega) S1 wt;have hJ2 := hJs i σ1 ws1 ats1 w (e, xk, t) now K1 (by omega) hpw (by omega) S1 W1.l W1.al (by rw [bu hwl, hwk]) wt hJ1;dsimp only at hJ2;refine ag (Lw ..) ?_;refine mV (v := vp e) h1 hw (by rw [bu (by rw [W1.el]; exact hw), we]) ?_
   have h2 : ac (eP e p rp σ1 t * (blk pb (.cells false [vp p, vp x]) * (blk eb (.cells false ev1) * (blk xb (.cells false xv1) * (blk ab (.cells false (ats1.map fun (n : Nat) => vi (n : Int))) * (xT xk x t * (bC x σ1 * (Rw * (ts 1 b6 (vs lb 4 1) (bM LL) * (du LL * Z)))))))))) H1 := by
    rw [U7, ak];unfold Zm at h1;rw [es1'] at h1;exact h1.to
   refine af h2 (Va e p rp σ1 t now (S1.ok (by omega)) wt) fun _ H2 h3 => ?_;refine aa (v := .agg (mU (if (ai σ1 t now).2.2 = true then (ai σ1 t now).2.1.code else 0)).toArray) rfl ?_;refine aa (v := vb (ai σ1 t now).2.2) rfl ?_;refine bk h3 fun qb H3 h4 => ?_;refine fW h4 rfl rfl fun H4 h5 => ?_;refine mV (v := vp xk) h5 hw (by rw [bu (by rw [W1.xl]; exact hw), wx]) ?_
   have h6 : ac (xP xk x σ1 t * (eQ e p rp (ai σ1 t now) * (blk qb (.cells false (mU (if (ai σ1 t now).2.2 = true then (ai σ1 t now).2.1.code else 0))) * (blk pb (.cells false [vp p, vp x]) * (blk eb (.cells false ev1) * (blk xb (.cells false xv1) * (blk ab (.cells false (ats1.map fun (n : Nat) => vi (n : Int))) * (Rw * (ts 1 b6 (vs lb 4 1) (bM LL) * (du LL * Z)))))))))) H4 := by
    rw [afZ, ak]; exact h5.to
   refine af h6 (Uh xk x σ1 t now (S1.ok (by omega)) wt) fun _ H5 h7 => ?_;refine aa (adQ _) ?_;rw [af0, ae3] at h7;refine nK ?_;refine aT h7 ?_;refine gs ?_;refine mV (v := vp xk) h7 hw (by rw [bu (by rw [W1.xl]; exact hw), wx]) ?_;refine gs ?_;refine af h7 (YK x xk (ai σ1 t now)) fun _ H6 h8 => ?_;refine dw h8 h7 (by rfl) ?_;refine zt ?_;refine af h8 (W9 _) fun _ H7 h9 => ?_;refine nK ?_;refine aa wP ?_;rw [Bool.not_true];refine aa (GF _ _) ?_;refine aeH (p := p) (x := x) (pb := pb) (rp := rp) (σ := (ai σ1 t now).1) h9 fun H8 hA => ?_;refine gs ?_;refine aa (aJ (by omega) (by omega)) ?_;rw [show ((now : Nat) : Int) + 1 = ((now + 1 : Nat) : Int) from by omega];have SI2 : SI (ai σ1 t now).1 (K1 + 3) := K2.si
   have hel : w < ev1.length := by rw [W1.el]; exact hw
   have hxl : w < xv1.length := by rw [W1.xl]; exact hw
   have hal : w < ats1.length := by rw [W1.al]; exact hw
   cases hd : (ai σ1 t now).2.2
   ·rw [ae4 hd, af1 hd] at hA
    refine gs ?_;have W2 := (W1.mono K2.c K2.obs).set hw (q := some (e, xk, (ai σ1 t now).2.1)) (e2 := ev1[w]) (x2 := xv1[w]) ats1[w] ⟨we, wx, K2.ok hd⟩;rw [pI hel, pI hxl, pI hal] at W2;rw [hd, if_neg (by simp)] at hJ2;refine next (K1 + 3) (now + 1) _ _ ev1 xv1 ats1 H8 SI2 (by omega) (by omega) W2 ha1 hJ2 ?_;have e3 := es2 (some (e, xk, (ai σ1 t now).2.1));have e3' : Uo p x rp (ws1.set w (some (e, xk, (ai σ1 t now).2.1))) = eT e p rp (ai σ1 t now).2.1 * xT xk x (ai σ1 t now).2.1 * Rw := e3;unfold Zm;rw [e3'];exact hA.to
   ·refine gs ?_
    refine Qh (v := .pointer none) (w := w) hA hw W1.xl rfl fun H9 hB => ?_;have W2 := (W1.mono K2.c K2.obs).set hw (q := none) (e2 := ev1[w]) (x2 := .pointer none) ats1[w] rfl;rw [pI hel, pI hal] at W2;rw [hd, if_pos rfl] at hJ2;refine next (K1 + 3) (now + 1) _ _ ev1 _ ats1 H9 SI2 (by omega) (by omega) W2 ha1 hJ2 ?_;have e3 := es2 none;have e3' : Uo p x rp (ws1.set w none) = emp * Rw := e3;unfold Zm;rw [e3', fg];exact hB.to
  -- one is picked
  have pick : ∀ (w : Nat) (hw : w < 4) (hpw : picks.length ≤ i → w = i % 4) (H' : AH), ac (Zm p x pb eb xb ab rp lb LL σ ws ev xv ats Z) H' →
   wp (tN (vs lb 4 1) pv (vi (most : Int)) (vb false) (vp pb) x10 x11 (vp eb) (vp xb) (vp ab) (vi (now : Int)) (vi (i : Int)) (vi (w : Int)) H') (Uz p x rp LL most J Z) := by
   intro w hw hpw H' h'
   have hwL : w < LL.length := by omega
   have hwl : w < ws.length := by rw [W.l]; exact hw
   have hel : w < ev.length := by rw [W.el]; exact hw
   have hxl : w < xv.length := by rw [W.xl]; exact hw
   have hal : w < ats.length := by rw [W.al]; exact hw
   have wr := W.r w hw;refine ag (Lv ..) ?_;refine mV (v := xv[w]) h' hw (bu _) ?_
   cases hq : ws[w] with
   | some q =>
    rw [hq] at wr;rw [show xv[w] = vp q.2.1 from wr.2.1];refine aa (nB _) ?_;refine gs ?_;refine ag (AX ..) ?_;refine mV (v := vp q.2.1) h' hw (by rw [bu hxl, show xv[w] = vp q.2.1 from wr.2.1]) ?_;refine aa (nB _) ?_;refine gs ?_;exact step w hw hpw q.1 q.2.1 q.2.2 K σ ws ev xv ats H' S (by omega) hJ W (fun a h2 => by have := ha a h2; omega) hq h'
   | none =>
    rw [hq] at wr;rw [show xv[w] = .pointer none from wr];refine aa (PD) ?_;refine gs ?_;refine fC (s := vs lb 4 1) (l := bM LL) h' ?_;refine gs ?_;refine aa (fT (by omega)) ?_;refine gs ?_
    have hav : (ats.map fun (n : Nat) => vi (n : Int))[w]? = some (vi (ats[w] : Nat)) := by rw [vH, bu hal]; rfl
    refine mV (v := vi (ats[w] : Nat)) h' hw hav ?_;refine gs ?_;refine da (s := vs lb 4 1) (l := bM LL) (i := w) (v := ij (LL[w]'hwL).1) h' (by omega) (by simp [bM]) ?_;refine gs ?_
    haveI := DS (LL := LL) (i := w) hwL
    refine fC (s := ij (LL[w]'hwL).1) (l := (LL[w]'hwL).2) h' ?_;refine gs ?_
    by_cases hge : (LL[w]'hwL).2.length ≤ ats[w]
    ·refine aa (jf (by omega)) ?_
     refine gs ?_;exact skip H' (hJn i σ ws ats w (LL[w]'hwL) ats[w] hpw (bu hwL) (bu hal) hge W.l (by rw [bu hwl, hq]) hJ) h'
    ·refine aa (fT (by omega)) ?_
     refine gs ?_
     have hat : ats[w] < (LL[w]'hwL).2.length := by omega
     refine ag (AX ..) ?_;refine mV (v := .pointer none) h' hw (by rw [bu hxl, show xv[w] = .pointer none from wr]) ?_;refine aa (PD) ?_;refine gs ?_;refine da (s := vs lb 4 1) (l := bM LL) (i := w) (v := ij (LL[w]'hwL).1) h' (by omega) (by simp [bM]) ?_;refine mV (v := vi (ats[w] : Nat)) h' hw hav ?_;refine Ce (s := ij (LL[w]'hwL).1) (l := (LL[w]'hwL).2) h' hat ?_;refine bk h' fun cb H1 h1 => ?_;refine fW h1 rfl rfl fun H2 h2 => ?_;refine aT h2 ?_;refine mV (v := vi (ats[w] : Nat)) h2 hw hav ?_;have hat400 : ats[w] ≤ i := ha _ (AV hal);refine af h2 (LU p x rp σ w ats[w] (by have := S.N; omega)) fun _ H3 h3 => ?_;refine ar h3 aB rfl ?_;refine aT h3 ?_;obtain ⟨c, hc⟩ : ∃ c : Cl, c = (LL[w]'hwL).2[ats[w]]'hat := ⟨_, rfl⟩;rw [← hc] at h3 ⊢;have hb : b5 (σ.begin w ats[w]).c = true := S.c;refine af h3 (U9 p rp (σ.begin w ats[w]) hb w c) fun e H4 h4 => ?_;refine bn aB ?_;refine aP h4 rfl ?_;refine aG h3 h4 (by rfl) ?_;refine aT h4 ?_;refine dw h3 h4 rfl ?_;refine af h4 (I5 x (σ.begin w ats[w]) w c 0) fun xk H5 h5 => ?_;refine Qh (v := vp e) (w := w) h5 hw W.el rfl fun H6 h6 => ?_;refine Qh (v := vp xk) (w := w) h6 hw W.xl rfl fun H7 h7 => ?_;refine mV (v := vi (ats[w] : Nat)) h7 hw hav ?_;refine aa (aJ (by omega) (by omega)) ?_;rw [show ((ats[w] : Nat) : Int) + 1 = ((ats[w] + 1 : Nat) : Int) from by omega];refine Qh (v := vi ((ats[w] + 1 : Nat) : Int)) (w := w) h7 hw (by rw [qK]; exact W.al) rfl fun H8 h8 => ?_;refine mV (v := vp e) h8 hw (by rw [List.getElem?_set_self hel]) ?_;refine aa (nB _) ?_;refine gs ?_;have W2 := (W.mono (σ' := σ.begin w ats[w]) rfl rfl).set hw (q := some (e, xk, Tk.new (σ.begin w ats[w]).c w c)) (e2 := vp e) (x2 := vp xk) (ats[w] + 1) ⟨rfl, rfl, eM.new hb w c⟩;obtain ⟨Rw, es1, es2⟩ := Es p x rp hwl;rw [hq] at es1;have es1' : Uo p x rp ws = emp * Rw := es1;have e3 := es2 (some (e, xk, Tk.new (σ.begin w ats[w]).c w c));have e3' : Uo p x rp (ws.set w (some (e, xk, Tk.new (σ.begin w ats[w]).c w c))) = eT e p rp (Tk.new (σ.begin w ats[w]).c w c) * xT xk x (Tk.new (σ.begin w ats[w]).c w c) * Rw := e3;refine step w hw hpw e xk (Tk.new (σ.begin w ats[w]).c w c) (K + 1) (σ.begin w ats[w]) _ _ _ (ats.set w (ats[w] + 1)) H8 (S.begin _ _) (by omega) (by rw [hc]; exact hJb i σ ws ats w e xk (LL[w]'hwL) ats[w] (bu hwL) (bu hal) hat S.c W.l W.al (by rw [bu hwl, hq]) hJ) W2 (fun a h2 => ?_) (by rw [List.getElem_set_self]) ?_
     ·rcases List.mem_or_eq_of_mem_set h2 with h2 | rfl
      ·have := ha a h2; omega
      ·omega
     ·unfold Zm
      rw [e3']
      have em : ((ats.set w (ats[w] + 1)).map fun (n : Nat) => vi (n : Int)) = (ats.map fun (n : Nat) => vi (n : Int)).set w (vi ((ats[w] + 1 : Nat) : Int)) := by rw [List.map_set]
      rw [em];rw [es1', fg] at h8;exact h8.to
  refine ag (Lu ..) ?_;refine cw (s := pv) (l := picks) h ?_;rw [show (i : Int).tmod 4 = ((i % 4 : Nat) : Int) from by rw [aaP (by omega)]; omega]
  by_cases hpl : i < picks.length
  ·refine aa (cy (by omega)) ?_
   refine gs ?_;refine da (s := pv) (l := picks) (v := vi picks[i]) h hpl rfl ?_;refine MS h (by omega) (by omega) fun H1 h1 => ?_;have m9 := eF (v := picks[i]) (n := 9) (by omega)
   have other : wp ((aj .other .rem (vi (dF picks[i] 9)) (vi 4)).bind fun v123 => tN (vs lb 4 1) pv (vi (most : Int)) (vb false) (vp pb) x10 x11 (vp eb) (vp xb) (vp ab) (vi (now : Int)) (vi (i : Int)) v123 H1) (Uz p x rp LL most J Z) := by
    refine aa (jw (by omega)) ?_
    obtain ⟨w, hw, ew⟩ : ∃ w : Nat, w < 4 ∧ (dF picks[i] 9).tmod 4 = (w : Int) := by
     rw [aaP m9.1];exact ⟨(dF picks[i] 9 % 4).toNat, by omega, by omega⟩
    rw [ew];exact pick w hw (fun h => by omega) H1 h1
   by_cases h8 : dF picks[i] 9 = 8
   ·refine aa (bf h8) ?_
    refine gs ?_;exact other
   ·refine aa (aM h8) ?_
    refine gs ?_;exact other
  ·refine aa (bF (by omega)) ?_
   refine gs ?_;exact pick (i % 4) (by omega) (fun _ => rfl) H h
end
theorem LV (p x : Nat) (rp : List Nat) (σ : aE) (K : Nat) (S : SI σ K) (hK : K ≤ 16) (lb : Nat) (LL : List (mY × List Cl)) (hL : LL.length = 4) (pv : Value) (picks : List Int) (most : Nat) (hm : most ≤ 4000) (J : Nat → aE → List Wk → List Nat → Prop) (hJ0 : J 0 σ [none, none, none, none] [0, 0, 0, 0])
 (hJs : ∀ (i : Nat) (σ : aE) (ws : List Wk) (ats : List Nat) (w : Nat) (q : Nat × Nat × Tk) (now : Int) (K : Nat), i < most → (picks.length ≤ i → w = i % 4) → K < 60000 → SI σ K → ws.length = 4 → ats.length = 4 → ws[w]? = some (some q) → eM σ q.2.2 → J i σ ws ats →
  J (i + 1) (ai σ q.2.2 now).1 (ws.set w (if (ai σ q.2.2 now).2.2 = true then none else some (q.1, q.2.1, (ai σ q.2.2 now).2.1))) ats)
 (hJb : ∀ (i : Nat) (σ : aE) (ws : List Wk) (ats : List Nat) (w e xk : Nat) (L : mY × List Cl) (a : Nat) (hLw : LL[w]? = some L) (haw : ats[w]? = some a) (hal : a < L.2.length), b5 σ.c = true → ws.length = 4 → ats.length = 4 → ws[w]? = some none → J i σ ws ats → J i (σ.begin w a) (ws.set w (some (e, xk, Tk.new σ.c w L.2[a]))) (ats.set w (a + 1)))
 (hJn : ∀ (i : Nat) (σ : aE) (ws : List Wk) (ats : List Nat) (w : Nat) (L : mY × List Cl) (a : Nat), (picks.length ≤ i → w = i % 4) → LL[w]? = some L → ats[w]? = some a → L.2.length ≤ a → ws.length = 4 → ws[w]? = some none → J i σ ws ats → J (i + 1) σ ws ats)
 {Z : SP} [hP : Rd Z pv 1 bH picks] {P : SP} {H : AH} (h : ac P H) [f : Fr P (bT p rp σ * (bC x σ * (ts 1 b6 (vs lb 4 1) (bM LL) * du LL))) Z] {k : Value × AH → OV} {Q : Value → AH → Prop}
 (hk : ∀ (b : Bool) (σ' : aE) (ws' : List Wk) (ats' : List Nat) (H' : AH), SI σ' 60000 → J most σ' ws' ats' → (b = true ↔ acZ LL ws' ats') → ac (bT p rp σ' * (bC x σ' * Z)) H' → wp (k (.tuple #[vb b, vb true], H')) Q) :
 wp ((FF Pp [.agg [vp p, vp x].toArray, vs lb 4 1, pv, vi (most : Int), vb false] H).bind k) Q := by
 have h0 : ac (bT p rp σ * (bC x σ * (ts 1 b6 (vs lb 4 1) (bM LL) * du LL)) * Z) H := ac.fr h
 have main : wp (FF Pp [.agg [vp p, vp x].toArray, vs lb 4 1, pv, vi (most : Int), vb false] H) (Uz p x rp LL most J Z) := by
  refine aZ (fun r => adO _ _ _ _ _ H) ?_;refine aV (l := [vp p, vp x]) h0 fun pb H1 h1 => ?_;refine bk h1 fun eb H2 h2 => ?_;refine bk h2 fun xb H3 h3 => ?_;refine bk h3 fun ab H4 h4 => ?_;refine ag (SM ..) ?_;refine ag (Lr ..) ?_;refine Ju p x pb eb xb ab rp lb LL pv picks most J (vb false) (vb false) Z hL hm hJs hJb hJn most 0 K 0 σ [none, none, none, none] [.pointer none, .pointer none, .pointer none, .pointer none] [.pointer none, .pointer none, .pointer none, .pointer none] [0, 0, 0, 0] H4 (by omega) S (by omega) (bm _) ⟨rfl, rfl, rfl, rfl, fun w hw => ?_⟩ (fun a ha => ?_) hJ0 ?_
  ·have : w = 0 ∨ w = 1 ∨ w = 2 ∨ w = 3 := by omega
   rcases this with rfl | rfl | rfl | rfl <;> rfl
  ·simp at ha; omega
  ·show ac (blk pb (.cells false [vp p, vp x]) * (blk eb (.cells false [.pointer none, .pointer none, .pointer none, .pointer none]) * (blk xb (.cells false [.pointer none, .pointer none, .pointer none, .pointer none]) * (blk ab (.cells false [vi 0, vi 0, vi 0, vi 0]) * (bT p rp σ * (bC x σ * ((emp * (emp * (emp * (emp * emp)))) * (ts 1 b6 (vs lb 4 1) (bM LL) * (du LL * Z))))))))) H4
   exact h4.to
 obtain ⟨v, H', e, b, σ', ws', ats', rfl, S', hJ', hb, h'⟩ := main;rw [e];exact hk b σ' ws' ats' H' S' hJ' hb h'
def Op3 (ws : List Wk) : Prop := ∀ (w : Nat) (q : Nat × Nat × Tk), ws[w]? = some (some q) → q.2.2.x.op = 3
theorem Op3.set {ws : List Wk} (h : Op3 ws) {w : Nat} {q : Wk} (hq : ∀ z, q = some z → z.2.2.x.op = 3) : Op3 (ws.set w q) := fun w' z hz => by
 by_cases e : w' = w
 ·subst e
  have hl := Y1 hz;rw [Gj] at hl;rw [List.getElem?_set_self hl] at hz;exact hq z (eu hz)
 ·rw [List.getElem?_set_ne (fun h => e h.symm)] at hz
  exact h w' z hz
def RJ3 (_ : Nat) (σ : aE) (ws : List Wk) (_ : List Nat) : Prop := RJ σ ws ∧ Op3 ws
theorem RJ3.step {i i' : Nat} {σ : aE} {ws : List Wk} {ats : List Nat} {w : Nat} {q : Nat × Nat × Tk} {now : Int} {K : Nat} (hK : K < 60000) (S : SI σ K) (hl : ws.length = 4) (hw : ws[w]? = some (some q)) (M : RJ3 i σ ws ats) :
 RJ3 i' (ai σ q.2.2 now).1 (ws.set w (if (ai σ q.2.2 now).2.2 = true then none else some (q.1, q.2.1, (ai σ q.2.2 now).2.1))) ats := by
 have ho := M.2 w q hw;have e : pK σ q.2.2 now = ai σ q.2.2 now := if_pos ho;have h1 := M.1.step (now := now) hK S hl hw;rw [e] at h1;refine ⟨h1, M.2.set fun z hz => ?_⟩
 split at hz
 ·cases hz
 ·cases hz
  show (ai σ q.2.2 now).2.1.x.op = 3;rw [abJ]; exact ho
theorem RJ3.begin {i : Nat} {σ : aE} {ws : List Wk} {ats ats' : List Nat} {w e xk : Nat} {place : Int} {c : Cl} (hc : c.op = 3) (hl : ws.length = 4) (hw : ws[w]? = some none) (M : RJ3 i σ ws ats) : RJ3 i (σ.begin w place) (ws.set w (some (e, xk, Tk.new σ.c w c))) ats' := by
 have h1 := M.1.begin (e := e) (xk := xk) (place := place) (c := c) hl hw;have e1 : Tk.newA σ.c w c = Tk.new σ.c w c := if_pos hc;rw [e1] at h1;exact ⟨h1, M.2.set fun z hz => by cases hz; exact hc⟩
theorem abN {P : SP} {H : AH} {k : Value × AH → OV} {Q : Value → AH → Prop} (h : ac P H) [i : Hs P 0 (.cells true tabC)] (hk : ∀ H', ac P H' → wp (k (vb true, H')) Q) : wp ((FF o9 [] H).bind k) Q := by
 obtain ⟨H', e, _, hg⟩ := J3 (D := []) (fun j hj => by cases hj) (by decide) Qy (i.get h);have e' : FF o9 [] H = some (vb true, H') := e;rw [e'];exact hk H' (h.keeps hg)
theorem U8 {H0 : AH} (hT : H0.get 0 = some (.cells true tabC)) (c : gF) (s : Value) (L : List Cl) [hR : Rd (fix H0) s 4 Cl.cells L] (s3 : Value) (l3 : List Int) [hR3 : Rd (fix H0) s3 1 bH l3] :
 ∃ H', FF gT [.agg (gF.cells c).toArray, s, s3] H0 = some (vb true, H') := by
 have key : wp (FF gT [.agg (gF.cells c).toArray, s, s3] H0) fun v' _ => v' = vb true := by
  haveI := UI hT
  refine aZ (fun r => xO _ _ _ H0) ?_;refine aV (l := gF.cells c) (SE H0) fun b1 H1 h1 => ?_;refine aT h1 ?_;refine af h1 (Xe c 4 (by omega)) fun q H3 h3 => ?_;obtain ⟨p, x, c'⟩ := q;dsimp only at h3 ⊢;rw [ak, ac.pu] at h3;obtain ⟨hc, h3⟩ := h3;refine aa (v := .agg [vp p, vp x].toArray) rfl ?_;refine aa (v := vb true) rfl ?_;refine bk h3 fun pb H4 h4 => ?_;refine fW h4 rfl rfl fun H5 h5 => ?_;refine abN h5 fun H6 h6 => ?_;refine gs ?_;rw [Bool.not_true];refine gs ?_;rw [Bool.not_true];refine gs ?_;refine aT h6 ?_;have M := Xq c' hc 4 (by omega);obtain ⟨rp, h7⟩ := XW (p := p) (σ := aE.made c' 4) (R := blk pb (.cells false [vp p, vp x]) * (bC x (aE.made c' 4) * (blk b1 (.cells false (gF.cells c)) * fix H0))) (H := H6) h6.to;refine adS (s := s) (L := L) 16 (by omega) h7 fun lb LL H8 hL hOf h8 => ?_;refine dw h8 h7 rfl ?_;refine Tb (s := s3) (l := l3) 9 200 (by omega) (by omega) h8 fun pv o H9 ho hov h9 => ?_;refine dw h9 h7 rfl ?_;refine LV p x rp (aE.made c' 4) 16 M.si (bm _) lb LL hL pv o 600 (by omega) RJ3 ⟨RJ.start hc 4 (by omega), fun w q hq => ?_⟩
   (fun i σ ws ats w q now K _ _ hK S hl _ hw _ M => M.step hK S hl hw)
   (fun i σ ws ats w e xk L a hLw _ hal _ hl _ hw M => M.begin ((hOf w L hLw).2 _ (AV hal)) hl hw)
   (fun i σ ws ats w L a _ _ _ _ _ _ M => M) h9 fun b σ' ws' ats' H10 S' hI _ h10 => ?_
  ·have hm := List.mem_of_getElem? hq
   simp at hm
  refine aa (v := vb b) rfl ?_;refine aa (v := vb true) rfl ?_;refine ar h10 aB rfl ?_;obtain ⟨g, hrp, hg, h12⟩ := gC (p := p) (rp := rp) (σ := σ') (ac.fr h10);refine ar h12 ae rfl ?_;have hE := S'.E;refine af h12 (Ur (p := p) (g := g) (σ := σ') (by omega)) fun ev H13 h13 => ?_;obtain ⟨hk, hno⟩ := hI.1.no_race;refine af h13 (SD (P := ts 5 Ev.cells ev σ'.μ.E) (by omega) hk hno) fun _ H14 h14 => ?_;refine aa (v := vi 0) rfl ?_;refine aa (v := vi 0) rfl ?_;refine aa (v := vb false) rfl ?_;refine gs ?_;rw [Bool.not_false];refine gs ?_;exact am rfl
 obtain ⟨v, H', e, rfl⟩ := key;exact ⟨H', e⟩
theorem enqRaces_args {H0 : AH} (hT : H0.get 0 = some (.cells true tabC)) {xc : CfgTy.I} {cc : List Value} (hc : Abs H0 CfgTy xc cc) {l : List ClTy.I} {v : Value} (hl : Abs H0 (.slice ClTy) l [v]) {l3 : List Int} {v3 : Value} (hl3 : Abs H0 (.slice (.int .i64)) l3 [v3]) :
 ∃ H', FF gT [.agg cc.toArray, v, v3] H0 = some (vb true, H') := by
 obtain ⟨c, rfl⟩ := ZB hc
 haveI := JT hl
 haveI := Qw hl3
 exact U8 hT c v (l.map YJ) v3 l3
end Go.Proofs.YtghoamdlcjdfjaaGreatDoor.Gst
