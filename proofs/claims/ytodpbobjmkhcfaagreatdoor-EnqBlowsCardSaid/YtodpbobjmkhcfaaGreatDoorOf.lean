/- Several texts in one. -/
import Derived.Test.YtodpbobjmkhcfaaGreatDoorOe
namespace Go.Proofs.YtodpbobjmkhcfaaGreatDoor.Gst
open Go Go.RowKit
set_option linter.unusedSimpArgs false
set_option linter.unusedVariables false
set_option maxHeartbeats 4000000
set_option maxRecDepth 100000
set_option synthInstance.maxSize 2000
set_option synthInstance.maxHeartbeats 400000
def tEv (T : Tr Value) : Operand → Value
 | .tmp t => match T.get t with
  | some v => v
  | none => undef
 | .const v => v
 | .global g => .pointer (some ⟨g, 0, none⟩)
 | .func f => .func (.func f) #[] #[]
def agC (m : Nat) (T : Tr Value) (dst : Option Tmp) (v : Value) : Option (Tr Value) :=
 match dst with
 | some j => match Nat.blt j m with
  | true => Tr.set v 24 T j
  | false => none
 | none => some T
def OF (ops : Array Oper) (T : Tr Value) (j : Nat) : Option Bool :=
 match (ops[j]?).bind (·.dst) with
 | some t => match T.get t with
  | some (.bool b) => some b
  | _ => none
 | none => none
def R3 (P : Program) (G : List Nat) (call : TF) (ops : Array Oper) (m : Nat) (o : Oper) (T : Tr Value) (E : EH) : Option (Tr Value × EH) :=
 match o.op.operands.toList.all (KQ G) with
 | true => match Region.wanted o (OF ops T) with
  | true => (uS P call (tEv T) o E).bind fun r => (agC m T o.dst r.1).map fun T' => (T', r.2)
  | false => (agC m T o.dst undef).map fun T' => (T', E)
 | false => none
def OE (P : Program) (G : List Nat) (call : TF) (ops : Array Oper) (m : Nat) : List Oper → Tr Value → EH → List (Tr Value × EH) → Option (List (Tr Value × EH) × Tr Value × EH)
 | [], T, E, hist => some (hist ++ [(T, E)], T, E)
 | o :: rest, T, E, hist => (R3 P G call ops m o T E).bind fun r => OE P G call ops m rest r.1 r.2 (hist ++ [(T, E)])
def ahP (P : Program) (G : List Nat) (hist : List (Tr Value × EH)) (ops : Array Oper) (p : Nat × Nat) : Bool :=
 match ops[p.1]?, hist[p.1]?, hist[if p.2 < p.1 then p.2 else p.2 + 1]? with
 | some o, some s, some s' => o.op.operands.toList.all (KQ G) && eqO (tRd P (tEv s.1) o.op s'.2) (tRd P (tEv s.1) o.op s.2)
 | _, _, _ => false
def zl (P : Program) (G : List Nat) (call : TF) (ops : Array Oper) (m : Nat) (draw : Bool) (T : Tr Value) (E : EH) : Option (Tr Value × EH) :=
 match draw with
 | true => match rL ops.toList with
  | true => (OE P G call ops m ops.toList T E []).bind fun r => match (db ops.toList).all (ahP P G r.1 ops) with
   | true => some r.2
   | false => none
  | false => none
 | false => (OE P G call ops m ops.toList T E []).map (·.2)
abbrev TR := AE × Tr Value × EH
def R0 (f : Tr Value → EH → Option TR) : Nat → Tr Value → EH → Option TR
 | 0, _, _ => none
 | n + 1, T, E => (f T E).bind fun r => match r.1 with
  | .normal => R0 f n r.2.1 r.2.2
  | _ => some r
def iH (P : Program) (G : List Nat) (call : TF) (N m : Nat) : Code → Tr Value → EH → Option TR
 | .skip, T, E => some (.normal, T, E)
 | .label _, T, E => some (.normal, T, E)
 | .region _ ops draw, T, E => (zl P G call ops m draw T E).map fun s => (.normal, s.1, s.2)
 | .seq x y, T, E => (iH P G call N m x T E).bind fun r => match r.1 with
  | .normal => iH P G call N m y r.2.1 r.2.2
  | _ => some r
 | .cond c x y, T, E => match KQ G c with
  | true => match tEv T c with
   | .bool true => iH P G call N m x T E
   | .bool false => iH P G call N m y T E
   | _ => none
  | false => none
 | .block id x, T, E => (iH P G call N m x T E).map fun r => match r.1 with
  | .exit i => if i = id then (.normal, r.2.1, r.2.2) else r
  | _ => r
 | .loop x, T, E => R0 (iH P G call N m x) N T E
 | .exit id, T, E => some (.exit id, T, E)
 | .ret, T, E => some (.ret, T, E)
 | _, _, _ => none
def Cm (T : Tr Value) (t : Nat) : Value := match T.get t with
 | some v => v
 | none => undef
def uT (P : Program) (T : Tr Value) (E : EH) : ResultVar → Option Value
 | .tmp t => some (Cm T t)
 | .cell a t => (ed P t).bind fun g => match g with
  | some n => WR n (Cm T a) E
  | none => WQ (Cm T a) E
def EK (P : Program) (T : Tr Value) (E : EH) : List ResultVar → Option (List Value)
 | [] => some []
 | r :: rs => (uT P T E r).bind fun v => (EK P T E rs).bind fun vs => some (v :: vs)
def ac5 (P : Program) (rs : List ResultVar) (r : TR) : Option (Value × EH) :=
 match r.1 with
 | .exit _ => none
 | _ => (EK P r.2.1 r.2.2 rs).map fun vs => (match vs with
  | [v] => v
  | vs => .tuple vs.toArray, r.2.2)
def Kt : List Value → Nat → Tr Value → Option (Tr Value)
 | [], _, T => some T
 | v :: vs, i, T => (Tr.set v 24 T i).bind fun T' => Kt vs (i + 1) T'
def ac4 (P : Program) (G : List Nat) (call : TF) (N n : Nat) (rs : List ResultVar) (s : DSh) (T : Tr Value) (E : EH) : Option (Value × EH) :=
 (iH P G call N n s.c1 T E).bind fun r => match r.1 with
  | .normal => match Nat.blt s.t n with
   | true => (R3 P G call s.ops2 n s.om r.2.1 r.2.2).bind fun q => (OE P G call s.ops3 n s.ops3.toList q.1 q.2 []).bind fun z => ac5 P rs (.normal, z.2.1, z.2.2)
   | false => none
  | _ => none
def EJ (P : Program) (G D : List Nat) (N : Nat) : Nat → TF
 | 0 => fun _ _ _ => none
 | k + 1 => fun f args E => match P.funcs[f]? with
  | some fn => if fn.name = "runtime.NumGoroutine" then none else match fn.body with
   | some c => match Nat.ble args.length fn.ntmps with
    | true => (Kt args 0 .lf).bind fun T => match jI c with
     | none => (iH P G (EJ P G D N k) N fn.ntmps c T E).bind (ac5 P fn.results.toList)
     | some s => match D.contains s.k with
      | true => ac4 P G (EJ P G D N k) N fn.ntmps fn.results.toList s T E
      | false => none
    | false => none
   | none => none
  | none => none
section
variable {P : Program} {G : List Nat} {g d m N : Nat} {F : List AObj}
structure ER (g d m : Nat) (T : Tr Value) (A : List Value) : Prop where
 len : A.length = m
 get : ∀ t, A[t]?.getD undef = bw g d (Cm T t)
theorem Ks {v : Value} {T T' : Tr Value} {j : Nat} (h : Tr.set v 24 T j = some T') (t : Nat) : Cm T' t = if t = j then v else Cm T t := by
 unfold Cm
 rw [Tr.get_set 24 h t]
 by_cases e : t = j
 ·rw [if_pos e, if_pos e]
 ·rw [if_neg e, if_neg e]
theorem ER.put {T T' : Tr Value} {A : List Value} (h : ER g d m T A) {dst : Option Tmp} {v : Value} (hp : agC m T dst v = some T') : ER g d m T' (jW A dst ((bw g d) v)) := by
 unfold agC at hp
 cases dst with
 | none => cases hp; exact h
 | some j =>
  simp only at hp
  split at hp
  ·rename_i hb
   have hj : j < m := Nat.le_of_ble_eq_true hb
   refine ⟨by simp [jW, h.len], fun t => ?_⟩
   rw [Ks hp]
   simp only [jW]
   rw [List.getElem?_set]
   by_cases e : t = j
   ·rw [if_pos e, if_pos e.symm, if_pos (by rw [h.len]; omega)]; rfl
   ·rw [if_neg e, if_neg (fun x => e x.symm)]; exact h.get t
  ·cases hp
theorem ER.ev {T : Tr Value} {A : List Value} (h : ER g d m T A) (hG : ∀ b ∈ G, b < g) {x : Operand} (hx : KQ G x = true) : eg A x = (bw g d) (tEv T x) := by
 cases x with
 | tmp t => exact h.get t
 | const v => exact (Km hx).symm
 | global b =>
  simp only [KQ, List.contains_iff_mem] at hx
  simp [eg, tEv, xt, yD, hG b hx]
 | func f => simp [eg, tEv]
theorem ER.yield {T : Tr Value} {A : List Value} (h : ER g d m T A) (ops : Array Oper) : cU ops A = OF ops T := by
 funext j
 unfold cU OF
 cases (ops[j]?).bind (·.dst) with
 | none => rfl
 | some t =>
  simp only [Option.bind_some]
  have hg := h.get t
  unfold Cm at hg
  cases hT : T.get t with
  | none =>
   rw [hT] at hg
   simp only [pS] at hg
   cases hA : A[t]? with
   | none => rfl
   | some v => rw [hA] at hg; simp only [Option.getD_some] at hg; subst hg; rfl
  | some v =>
   rw [hT] at hg
   simp only at hg
   cases hA : A[t]? with
   | none => rw [hA] at hg; simp only [Option.getD_none] at hg; cases v <;> simp [undef] at hg ⊢
   | some w => rw [hA] at hg; simp only [Option.getD_some] at hg; subst hg; cases v <;> simp
structure St (g d m : Nat) (F : List AObj) (x : Tr Value × EH) (y : List Value × AH) : Prop where
 er : ER g d m x.1 y.1
 hr : HR g d F x.2 y.2
theorem Kp {c : TF} {c' : bh} (hG : ∀ b ∈ G, b < g) (hc : p8 g d F c c') {ops : Array Oper} {o : Oper} {T : Tr Value} {E : EH} {A : List Value} {H : AH} {r} (hS : St g d m F (T, E) (A, H)) (h : R3 P G c ops m o T E = some r) :
 ∃ r', e8 P G c' ops o A H = some r' ∧ St g d m F r r' := by
 unfold R3 at h
 unfold e8
 split at h
 ·rename_i hok
  rw [if_pos hok]
  have hev : ∀ x, x ∈ o.op.operands.toList → eg A x = (bw g d) (tEv T x) := fun x hx => hS.er.ev hG (List.all_eq_true.1 hok x hx)
  rw [hS.er.yield]
  split at h
  ·rename_i hw
   rw [if_pos hw]
   obtain ⟨⟨v, E1⟩, h1, h⟩ := Option.bind_eq_some_iff.1 h
   obtain ⟨T', h2, e⟩ := Option.map_eq_some_iff.1 h
   cases e
   obtain ⟨H', h3, h4⟩ := ai6 hS.hr hc hev v E1 h1
   rw [h3]
   exact ⟨_, rfl, hS.er.put h2, h4⟩
  ·rename_i hw
   rw [if_neg (by rw [hw]; simp)]
   obtain ⟨T', h2, e⟩ := Option.map_eq_some_iff.1 h
   cases e
   refine ⟨_, rfl, ?_, hS.hr⟩
   have := hS.er.put h2
   rwa [pS] at this
 ·cases h
theorem GJ {c : TF} {c' : bh} (hG : ∀ b ∈ G, b < g) (hc : p8 g d F c c') {ops : Array Oper} : ∀ (l : List Oper) {T : Tr Value} {E : EH} {A : List Value} {H : AH} {hist r}, St g d m F (T, E) (A, H) → OE P G c ops m l T E hist = some r →
 (∃ r', cz P G c' ops l A H = some r' ∧ St g d m F r.2 r') ∧ ∃ t, r.1 = hist ++ t ∧ t.length = l.length + 1 ∧ ∀ i, i ≤ l.length → ∃ x y, t[i]? = some x ∧ cz P G c' ops (l.take i) A H = some y ∧ St g d m F x y := by
 intro l
 induction l with
 | nil =>
  intro T E A H hist r hS h
  simp only [OE] at h; cases h
  refine ⟨⟨_, rfl, hS⟩, [(T, E)], rfl, rfl, ?_⟩
  intro i hi
  have : i = 0 := by simpa using hi
  subst this
  exact ⟨_, _, rfl, rfl, hS⟩
 | cons o l ih =>
  intro T E A H hist r hS h
  simp only [OE] at h
  obtain ⟨q, hq, h⟩ := Option.bind_eq_some_iff.1 h
  obtain ⟨⟨A1, H1⟩, h1, hS1⟩ := Kp hG hc hS hq
  obtain ⟨T1, E1⟩ := q
  obtain ⟨⟨r', h2, hS2⟩, t, e, hl, ht⟩ := ih hS1 h
  refine ⟨⟨r', by simp only [cz, h1, Option.bind_some]; exact h2, hS2⟩, (T, E) :: t, by rw [e]; simp, by simp [hl], ?_⟩
  intro i hi
  cases i with
  | zero => exact ⟨_, _, rfl, rfl, hS⟩
  | succ i =>
   obtain ⟨x, y, hx, hy, hxy⟩ := ht i (by simpa using hi)
   exact ⟨x, y, by simpa using hx, by simp only [List.take_succ_cons, cz, h1, Option.bind_some]; exact hy, hxy⟩
theorem NR {c : TF} {c' : bh} (hG : ∀ b ∈ G, b < g) (hc : p8 g d F c c') {ops : Array Oper} {draw : Bool} {T : Tr Value} {E : EH} {A : List Value} {H : AH} {r} (hS : St g d m F (T, E) (A, H)) (h : zl P G c ops m draw T E = some r) :
 ∃ r', eK P G c' ops draw A H = some r' ∧ St g d m F r r' := by
 cases draw with
 | false =>
  simp only [zl, eK] at h ⊢
  obtain ⟨q, hq, e⟩ := Option.map_eq_some_iff.1 h
  subst e
  exact (GJ hG hc _ hS hq).1
 | true =>
  simp only [zl, eK] at h ⊢
  split at h
  ·rename_i hreg
   obtain ⟨q, hq, h⟩ := Option.bind_eq_some_iff.1 h
   split at h
   ·rename_i hall
    cases h
    obtain ⟨⟨r', h1, h2⟩, t, e, hl, ht⟩ := GJ hG hc _ hS hq
    refine ⟨r', ?_, h2⟩
    unfold kZ
    rw [hreg]
    simp only
    cases hp : db ops.toList with
    | nil => exact h1
    | cons p ps =>
     simp only
     rw [ju ?_]
     ·exact h1
     ·rw [← hp]
      intro p hpm o ho
      have hx := List.all_eq_true.1 hall p hpm
      unfold ahP at hx
      rw [ho] at hx
      simp only [List.nil_append] at e
      have st : ∀ i x, q.1[i]? = some x → St g d m F x (iM P G c' ops A H i) := by
       intro i x hs
       have hi : i < t.length := by rw [e] at hs; exact (List.getElem?_eq_some_iff.1 hs).1
       obtain ⟨x', y, hx', hy, hxy⟩ := ht i (by omega)
       rw [e, hx'] at hs
       cases hs
       unfold iM
       rw [hy]
       exact hxy
      split at hx
      ·rename_i o' x1 x2 ho' hs hs'
       cases ho'
       simp only [Bool.and_eq_true] at hx
       have hev : ∀ x, x ∈ o.op.operands.toList → eg (iM P G c' ops A H p.1).1 x = (bw g d) (tEv x1.1 x) := fun x hxm => (st _ _ hs).er.ev hG (List.all_eq_true.1 hx.1 x hxm)
       rw [ahL (st _ _ hs').hr hev, ahL (st _ _ hs).hr hev, SR hx.2]
      ·cases hx
   ·cases h
  ·cases h
structure Ar (g d m : Nat) (F : List AObj) (x : TR) (y : AR) : Prop where
 e : x.1 = y.1
 st : St g d m F x.2 y.2
theorem If {c : TF} {c' : bh} (hG : ∀ b ∈ G, b < g) (hc : p8 g d F c c') : ∀ (k : Code) {T : Tr Value} {E : EH} {A : List Value} {H : AH} {r : TR}, St g d m F (T, E) (A, H) → iH P G c N m k T E = some r →
 ∃ r', aN P G c' k A H = some r' ∧ Ar g d m F r r' := by
 intro k
 induction k with
 | region id ops draw =>
  intro T E A H r hS hr
  simp only [iH, aN] at hr ⊢
  obtain ⟨q, hq, e⟩ := Option.map_eq_some_iff.1 hr
  obtain ⟨r', h1, h2⟩ := NR hG hc hS hq
  subst e
  rw [h1]
  exact ⟨_, rfl, rfl, h2⟩
 | seq x y ihx ihy =>
  intro T E A H r hS hr
  simp only [iH, aN] at hr ⊢
  obtain ⟨⟨e, T1, E1⟩, hx, hr⟩ := Option.bind_eq_some_iff.1 hr
  obtain ⟨⟨e', A1, H1⟩, h1, h2⟩ := ihx hS hx
  have he : e = e' := h2.e
  subst he
  rw [h1]
  simp only [Option.bind_some]
  cases e with
  | normal => exact ihy h2.st hr
  | exit i => cases hr; exact ⟨_, rfl, h2⟩
  | ret => cases hr; exact ⟨_, rfl, h2⟩
 | cond b x y ihx ihy =>
  intro T E A H r hS hr
  simp only [iH, aN] at hr ⊢
  split at hr
  ·rename_i hok
   rw [hS.er.ev hG hok]
   split at hr
   ·rename_i e; rw [e]; simp only [RV]; exact ihx hS hr
   ·rename_i e; rw [e]; simp only [RV]; exact ihy hS hr
   ·cases hr
  ·cases hr
 | block id x ih =>
  intro T E A H r hS hr
  simp only [iH, aN] at hr ⊢
  obtain ⟨⟨e, T1, E1⟩, hx, hr⟩ := Option.map_eq_some_iff.1 hr
  obtain ⟨⟨e', A1, H1⟩, h1, h2⟩ := ih hS hx
  have he : e = e' := h2.e
  subst he
  rw [h1]
  subst hr
  cases e with
  | normal => exact ⟨_, rfl, h2⟩
  | exit i =>
   simp only [Option.map_some]
   by_cases hi : i = id
   ·rw [if_pos hi, if_pos hi]; exact ⟨_, rfl, rfl, h2.st⟩
   ·rw [if_neg hi, if_neg hi]; exact ⟨_, rfl, h2⟩
  | ret => exact ⟨_, rfl, h2⟩
 | loop x ih =>
  intro T E A H r hS hr
  simp only [iH, aN] at hr ⊢
  suffices key : ∀ n T E A H, St g d m F (T, E) (A, H) → R0 (iH P G c N m x) n T E = some r → ∃ r', dQ (aN P G c' x) n A H = some r' ∧ Ar g d m F r r' from by
   obtain ⟨r', h1, h2⟩ := key N T E A H hS hr
   exact ⟨r', cy.2 ⟨N, h1⟩, h2⟩
  clear hr hS
  intro n
  induction n with
  | zero => intro T E A H hS hr; cases hr
  | succ n ihn =>
   intro T E A H hS hr
   simp only [R0, dQ] at hr ⊢
   obtain ⟨⟨e, T1, E1⟩, hx, hr⟩ := Option.bind_eq_some_iff.1 hr
   obtain ⟨⟨e', A1, H1⟩, h1, h2⟩ := ih hS hx
   have he : e = e' := h2.e
   subst he
   rw [h1]
   simp only [Option.bind_some]
   cases e with
   | normal => exact ihn _ _ _ _ h2.st hr
   | exit i => cases hr; exact ⟨_, rfl, h2⟩
   | ret => cases hr; exact ⟨_, rfl, h2⟩
 | skip => intro T E A H r hS hr; simp only [iH] at hr; cases hr; exact ⟨_, rfl, rfl, hS⟩
 | label l => intro T E A H r hS hr; simp only [iH] at hr; cases hr; exact ⟨_, rfl, rfl, hS⟩
 | exit i => intro T E A H r hS hr; simp only [iH] at hr; cases hr; exact ⟨_, rfl, rfl, hS⟩
 | ret => intro T E A H r hS hr; simp only [iH] at hr; cases hr; exact ⟨_, rfl, rfl, hS⟩
 | _ => intro T E A H r hS hr; cases hr
theorem NU {T : Tr Value} {E : EH} {A : List Value} {H : AH} (hS : St g d m F (T, E) (A, H)) (r : ResultVar) : jX P A H r = (uT P T E r).map (bw g d) := by
 cases r with
 | tmp t => simp only [jX, uT, Option.map_some]; rw [hS.er.get t]
 | cell a t =>
  simp only [jX, uT]
  rw [hS.er.get a]
  cases ed P t with
  | none => rfl
  | some n => cases n with
   | none => exact hS.hr.ld1 _
   | some n => exact hS.hr.ldN _ _
theorem aaC {T : Tr Value} {E : EH} {A : List Value} {H : AH} (hS : St g d m F (T, E) (A, H)) : ∀ rs : List ResultVar, rj P A H rs = (EK P T E rs).map (fN g d) := by
 intro rs
 induction rs with
 | nil => rfl
 | cons r rs ih =>
  simp only [rj, EK]
  rw [NU hS, ih]
  cases uT P T E r with
  | none => rfl
  | some v => cases EK P T E rs <;> rfl
theorem QK {rs : List ResultVar} {x : TR} {y : AR} (h : Ar g d m F x y) : dv g d F (ac5 P rs x) (Ws P rs y) := by
 intro v E' hx
 obtain ⟨e, T, E⟩ := x
 obtain ⟨e', A, H⟩ := y
 have he : e = e' := h.e
 subst he
 have hS := h.st
 have hm := aaC (P := P) hS rs
 have key : ∀ vs, EK P T E rs = some vs → g9 P A H rs = some ((bw g d) (match vs with | [v] => v | vs => .tuple vs.toArray)) := by
  intro vs hvs
  unfold g9
  rw [hm, hvs]
  simp only [Option.map_some]
  congr 1
  match vs with
  | [] => simp [fN]
  | [v] => rfl
  | v :: w :: vs => simp [fN]
 cases e with
 | exit i => cases hx
 | normal =>
  simp only [ac5, Ws] at hx ⊢
  obtain ⟨vs, hvs, e⟩ := Option.map_eq_some_iff.1 hx
  cases e
  rw [key vs hvs]
  exact ⟨H, rfl, hS.hr⟩
 | ret =>
  simp only [ac5, Ws] at hx ⊢
  obtain ⟨vs, hvs, e⟩ := Option.map_eq_some_iff.1 hx
  cases e
  rw [key vs hvs]
  exact ⟨H, rfl, hS.hr⟩
theorem ZY : ∀ (vs : List Value) (i : Nat) (T : Tr Value) {T' : Tr Value}, Kt vs i T = some T' → ∀ t, Cm T' t = if i ≤ t ∧ t < i + vs.length then (vs[t - i]?).getD undef else Cm T t := by
 intro vs
 induction vs with
 | nil => intro i T T' h t; simp only [Kt] at h; cases h; rw [if_neg (by simp only [List.length_nil]; omega)]
 | cons v vs ih =>
  intro i T T' h t
  simp only [Kt] at h
  obtain ⟨T1, h1, h⟩ := Option.bind_eq_some_iff.1 h
  rw [ih _ _ h t, Ks h1]
  by_cases e1 : i + 1 ≤ t ∧ t < i + 1 + vs.length
  ·rw [if_pos e1, if_pos (by simp; omega)]
   rw [show t - i = (t - (i + 1)) + 1 from by omega, List.getElem?_cons_succ]
  ·rw [if_neg e1]
   by_cases e2 : t = i
   ·subst e2; rw [if_pos rfl, if_pos (by simp)]; simp
   ·rw [if_neg e2, if_neg (by simp; omega)]
theorem WH {D : List Nat} (hG : ∀ b ∈ G, b < g) (hD : ∀ k ∈ D, s5 P k) : ∀ k, p8 g d F (EJ P G D N k) (d9 P G k) := by
 intro k
 induction k with
 | zero => intro E H f args hR v E' h; cases h
 | succ k ih =>
  intro E H f args hR v E' h
  rw [EJ] at h
  rw [d9]
  simp only [] at h ⊢
  cases hf : P.funcs[f]? with
  | none => rw [hf] at h; cases h
  | some fn =>
   rw [hf] at h
   simp only at h ⊢
   split at h
   ·cases h
   ·rename_i hn
    rw [if_neg hn]
    cases hb : fn.body with
    | none => rw [hb] at h; cases h
    | some c =>
     rw [hb] at h
     simp only at h ⊢
     split at h
     ·rename_i hle
      have hle := Nat.le_of_ble_eq_true hle
      obtain ⟨T, hT, h⟩ := Option.bind_eq_some_iff.1 h
      have hS : St g d fn.ntmps F (T, E) (fN g d args ++ List.replicate (fn.ntmps - (fN g d args).length) undef, H) := by
       refine ⟨⟨by simp; omega, fun t => ?_⟩, hR⟩
       rw [ZY _ _ _ hT]
       simp only [fN, List.getElem?_append, List.length_map, List.getElem?_map, List.getElem?_replicate]
       by_cases e : t < args.length
       ·rw [if_pos (show 0 ≤ t ∧ t < 0 + args.length from by omega), if_pos e]
        simp [List.getElem?_eq_getElem e]
       ·rw [if_neg (show ¬ (0 ≤ t ∧ t < 0 + args.length) from by omega), if_neg e]
        have : Cm .lf t = undef := rfl
        rw [this, pS]
        split <;> rfl
      cases hd : jI c with
      | none =>
       rw [hd] at h
       obtain ⟨r, hr, h⟩ := Option.bind_eq_some_iff.1 h
       obtain ⟨r', h1, h2⟩ := If hG ih c hS hr
       simp only
       unfold oc
       rw [h1]
       exact QK h2 v E' h
      | some q =>
       rw [hd] at h
       simp only at h ⊢
       split at h
       ·rename_i hin
        rw [ju (hD _ (by simpa using hin))]
        unfold ac4 at h
        unfold nh
        obtain ⟨⟨e1, T1, E1⟩, hr, h⟩ := Option.bind_eq_some_iff.1 h
        obtain ⟨⟨e2, A1, H1⟩, h1, h2⟩ := If hG ih q.c1 hS hr
        have he : e1 = e2 := h2.e
        subst he
        rw [h1]
        simp only [Option.bind_some]
        cases e1 with
        | exit i => cases h
        | ret => cases h
        | normal =>
         simp only at h ⊢
         split at h
         ·rename_i hlt
          have hlt : q.t < fn.ntmps := Nat.le_of_ble_eq_true hlt
          have hlen : A1.length = fn.ntmps := h2.st.er.len
          rw [if_neg (by omega)]
          obtain ⟨⟨T2, E2⟩, h3, h⟩ := Option.bind_eq_some_iff.1 h
          obtain ⟨⟨A2, H2⟩, h4, h5⟩ := Kp hG ih h2.st h3
          obtain ⟨z, h6, h⟩ := Option.bind_eq_some_iff.1 h
          obtain ⟨⟨⟨A3, H3⟩, h7, h8⟩, _⟩ := GJ hG ih _ h5 h6
          rw [h4]
          simp only [Option.bind_some]
          rw [h7]
          exact QK (x := (.normal, z.2.1, z.2.2)) (y := (.normal, A3, H3)) ⟨rfl, h8⟩ v E' h
         ·cases h
       ·cases h
     ·cases h
end
def aaZ (tab : List Value) : Option (Value × EH) → Bool
 | some (.bool true, E) => match E.get 0 with
  | some (.cells true cs) => CT (eqV 0) cs tab
  | _ => false
 | _ => false
def Ku (tab : List Value) : EH := ⟨1, .nd (some (.cells true tab)) .lf .lf⟩
theorem Lc {P : Program} {D : List Nat} {N k f : Nat} {tab : List Value} (hD : ∀ k ∈ D, s5 P k) (hl : tab.all cE = true) (h : aaZ tab (EJ P [0] D N k f [] (Ku tab)) = true)
 {H : AH} (hH : H.get 0 = some (.cells true tab)) : ∃ H', aF P [0] f [] H = some (.bool true, H') ∧ H.size ≤ H'.size ∧ ∀ i, i < H.size → H'.get i = H.get i := by
 obtain ⟨objs⟩ := H
 cases objs with
 | nil => cases hH
 | cons o F =>
  have ho : o = .cells true tab := by simpa [AH.get] using hH
  subst ho
  have hR : HR 1 F.length F (Ku tab) ⟨.cells true tab :: F⟩ := by
   refine ⟨rfl, Nat.le_refl _, by simp [AH.size, Ku, Nat.add_comm], fun b => ?_, fun b hb => ?_, fun b h1 h2 => ?_⟩
   ·cases b with
    | zero =>
     have : yD 1 F.length 0 = 0 := rfl
     rw [this]
     show some _ = some (AObj.cells true (fN 1 F.length tab))
     rw [uO hl]
    | succ b =>
     have e : yD 1 F.length (b + 1) = b + 1 + F.length := by simp [yD]
     have e2 : (Ku tab).get (b + 1) = none := by
      simp only [EH.get, Ku, Tr.get]; split <;> rfl
     rw [e, e2]
     exact AH.get_none (by simp [AH.size]; omega)
   ·have : 1 ≤ b := hb
    obtain ⟨b, rfl⟩ : ∃ c, b = c + 1 := ⟨b - 1, by omega⟩
    simp only [EH.get, Ku, Tr.get]; split <;> rfl
   ·obtain ⟨b, rfl⟩ : ∃ c, b = c + 1 := ⟨b - 1, by omega⟩
    simp [AH.get]
  unfold aaZ at h
  split at h
  ·rename_i E' hE
   obtain ⟨H', h1, h2⟩ := WH (F := F) (N := N) (P := P) (by simp) hD k (Ku tab) _ f [] hR _ _ hE
   refine ⟨H', ?_, ?_, fun i hi => ?_⟩
   ·have := OZ k _ _ _ _ h1
    simpa using this
   ·rw [h2.size]
    have := h2.le
    simp [AH.size]; omega
   ·split at h
    ·rename_i cs hcs
     have he : cs = tab := zU (Du 0) _ _ h
     subst he
     cases i with
     | zero =>
      have := h2.get 0
      rw [show yD 1 F.length 0 = 0 from rfl, hcs] at this
      rw [this]
      show some (AObj.cells true (fN 1 F.length cs)) = _
      rw [uO hl]; rfl
     | succ i =>
      have hi : i < F.length := by simpa [AH.size] using hi
      rw [h2.fr (i + 1) (by omega) (by omega)]
      simp [AH.get]
    ·cases h
  ·cases h
section
variable {P : Program} {w : World} {ev : Operand → Value} {d : Option Tmp} {x : Operand} {v a b : Value} {y : TypeId} {p : String} {e : Array Edge} {gd : Option (Nat × Bool)}
end
def tabC : List Value := [0,1,56,2,57,49,28,3,61,58,42,50,38,29,17,4,62,47,59,36,45,43,51,22,53,39,33,30,24,18,12,5,63,55,48,27,60,41,37,16,46,35,44,21,52,32,23,11,54,26,40,15,34,20,31,10,25,14,19,9,13,8,7,6].map fun n => .int .u8 n
theorem Sw : aaZ tabC (EJ Tryz.prog [0] [] 100000 60 10 [] (Ku tabC)) = true := by decide +kernel
theorem ae.keeps {P : SP} {H H' : AH} (h : ae P H) (k : ∀ i, i < H.size → H'.get i = H.get i) : ae P H' := by
 obtain ⟨x, hx, hg⟩ := h
 exact ⟨x, hx, fun i o hi => by
  have := hg i o hi
  rw [k i (AH.lt_of_get this)]; exact this⟩
theorem HW {H0 : AH} (hT : H0.get 0 = some (.cells true tabC)) : Hs (QL H0) 0 (.cells true tabC) := ⟨fun h => (Fx.refl H0).fx h 0 _ hT⟩
theorem u2 {H0 : AH} {v : Value} {l : List Int} (h : Abs H0 (.slice (.int .i64)) l [v]) : Rd (QL H0) v 1 da l :=
 Rd.arg (t := .int .i64) (enc := da) (E := inferInstanceAs (Enc da 1)) (fun x c h => h.1) h
abbrev ITy : Ty := .int .i64
abbrev CfgTy : Ty := .pair ITy (.pair ITy (.pair ITy (.pair ITy (.pair (.int .u64) .unit))))
abbrev ClTy : Ty := .pair ITy (.pair ITy (.pair ITy (.pair ITy .unit)))
def V1 (x : ClTy.I) : Cl := ⟨x.1, x.2.1, x.2.2.1, x.2.2.2.1⟩
theorem ah9 {H : AH} {x : ClTy.I} {cs : List Value} (h : Abs H ClTy x cs) : cs = Cl.cells (V1 x) := by
 obtain ⟨c1, c2, rfl, h1, c3, c4, rfl, h2, c5, c6, rfl, h3, c7, c8, rfl, h4, h5⟩ := h
 have h5 : c8 = [] := h5
 rw [h1.1, h2.1, h3.1, h4.1, h5]
 rfl
theorem O8 {H : AH} {x : CfgTy.I} {cs : List Value} (h : Abs H CfgTy x cs) : ∃ c : f0, cs = f0.cells c := by
 obtain ⟨c1, c2, rfl, h1, c3, c4, rfl, h2, c5, c6, rfl, h3, c7, c8, rfl, h4, c9, c10, rfl, h5, h6⟩ := h
 have h6 : c10 = [] := h6
 obtain ⟨e5, hw⟩ := h5
 have : 0 ≤ x.2.2.2.2.1 ∧ x.2.2.2.2.1 ≤ 18446744073709551615 := by simpa [Lit.wf, IntKind.has, IntKind.min, IntKind.max, IntKind.bits, IntKind.signed] using hw
 refine ⟨⟨x.1, x.2.1, x.2.2.1, x.2.2.2.1, x.2.2.2.2.1.toNat⟩, ?_⟩
 rw [h1.1, h2.1, h3.1, h4.1, e5, h6]
 show _ = [vi x.1, vi x.2.1, vi x.2.2.1, vi x.2.2.2.1, .int .u64 ((x.2.2.2.2.1.toNat : Nat) : Int)]
 rw [Int.toNat_of_nonneg this.1]
 rfl
theorem zC {H0 : AH} {v : Value} {l : List ClTy.I} (h : Abs H0 (.slice ClTy) l [v]) : Rd (QL H0) v 4 Cl.cells (l.map V1) := by
 have E : Enc (fun x : ClTy.I => Cl.cells (V1 x)) ClTy.w := ⟨fun _ => rfl, fun _ => rfl, by decide⟩
 have r := Rd.arg (t := ClTy) (enc := fun x => Cl.cells (V1 x)) (E := E) (fun x c hx => ah9 hx) h
 refine ⟨fun {H} hh => ?_⟩
 have := r.rd hh
 rw [List.flatMap_map, List.length_map]
 exact this
theorem EM {P : SP} {H : AH} {k : Value × AH → OV} {Q : Value → AH → Prop} (h : ae P H) [i : Hs P 0 (.cells true tabC)] (hk : ∀ H', ae P H' → wp (k (vb true, H')) Q) : wp ((FF lC [] H).bind k) Q := by
 obtain ⟨H', e, _, hg⟩ := Lc (D := []) (fun j hj => by cases hj) (by decide) Sw (i.get h)
 have e' : FF lC [] H = some (vb true, H') := e
 rw [e']
 exact hk H' (h.keeps hg)
section
variable {p xx b b2 : Nat} {σ : a7} {R : SP}
end
structure New (σ : a7) (k : Nat) : Prop where
 si : SI σ k
 js : ∀ l, l.1 ≠ 10 → σ.μ.V l = 0
theorem VM {flow : Int} {obj : Nat} (h : obj < 4294967296) : jV flow obj % 4294967296 = obj := by
 unfold jV
 omega
theorem New.lay {σ : a7} {k : Nat} (h : New σ k) (ho : σ.obs.length < 90) (f w most : Int) (hf : 0 ≤ f ∧ f < 1000) : New (σ.lay f w most) (k + 4) := by
 obtain ⟨⟨c, N, E, pts, V, obs, cells, slot, head⟩, js⟩ := h
 obtain ⟨q1, q2, q3⟩ := vK most
 have hsl : jV f σ.obs.length < 18446744073709551616 := by unfold jV; omega
 have hlen : (σ.lay f w most).obs.length = σ.obs.length + 1 := by simp [a7.lay, a7.make]
 refine ⟨⟨c, by simp [a7.lay, a7.make]; omega, by simp [a7.lay, a7.make]; omega, by simp [a7.lay, a7.make]; omega, fun l => ?_, by rw [hlen]; omega, fun o ho2 => ?_, fun s i => ?_, fun o => ?_⟩, fun l hl => ?_⟩
 ·show (if l = (10, f.tmod σ.c.sh, f.tdiv σ.c.sh) then jV f σ.obs.length else σ.μ.V l) < _
  split
  ·exact hsl
  ·exact V l
 ·rw [hlen] at ho2
  unfold az
  show 1 ≤ ((((σ.obs ++ [_])[o]?).map _).getD []).length ∧ ((((σ.obs ++ [_])[o]?).map _).getD []).length < 1000
  by_cases e : o < σ.obs.length
  ·rw [List.getElem?_append_left e]
   exact cells o e
  ·rw [show o = σ.obs.length from by omega, List.getElem?_append_right (Nat.le_refl _), Nat.sub_self]
   show 1 ≤ (List.replicate (fg most) UQ).length ∧ (List.replicate (fg most) UQ).length < 1000
   rw [List.length_replicate]
   omega
 ·rw [hlen]
  show (if (10, s, i) = ((10 : Int), f.tmod σ.c.sh, f.tdiv σ.c.sh) then jV f σ.obs.length else σ.μ.V (10, s, i)) ≠ 0 → (if (10, s, i) = ((10 : Int), f.tmod σ.c.sh, f.tdiv σ.c.sh) then jV f σ.obs.length else σ.μ.V (10, s, i)) % 4294967296 < _
  split
  ·intro _
   rw [VM (by omega)]
   omega
  ·intro hv
   have := slot s i hv
   omega
 ·show (if ((12 : Int), (o : Int), (0 : Int)) = (10, f.tmod σ.c.sh, f.tdiv σ.c.sh) then jV f σ.obs.length else σ.μ.V (12, o, 0)) ≤ _
  rw [if_neg (by simp)]
  have := head o
  omega
 ·show (if l = (10, f.tmod σ.c.sh, f.tdiv σ.c.sh) then jV f σ.obs.length else σ.μ.V l) = 0
  rw [if_neg (fun e => hl (by rw [e]))]
  exact js l hl
theorem Js (c : f0) (hc : dh c = true) : ∀ n, n ≤ 16 → New (a7.made c n) (4 * n) := by
 intro n
 induction n with
 | zero =>
  intro _
  exact ⟨⟨hc, Nat.le_refl _, Nat.le_refl _, Nat.le_refl _, fun _ => (by show (0 : Nat) < _; omega), (by show (0 : Nat) ≤ _; omega), fun o ho => (by cases ho), fun s i h => absurd rfl h, fun o => Nat.le_refl _⟩, fun _ _ => rfl⟩
 | succ n ih =>
  intro hn
  have h := ih (by omega)
  have hm := (aaA c n).2.2
  unfold a7.made
  split
  ·exact h.lay (by omega) _ _ _ (by omega)
  ·exact ⟨h.si.mono (by omega), h.js⟩
theorem New.alone {σ : a7} {k : Nat} (h : New σ k) : JS σ k := by
 refine ⟨fun o => ?_, h.js _ (by simp), fun s => h.js _ (by simp)⟩
 rw [h.js (11, o, 0) (by simp)]
 refine ⟨rfl, by decide, ?_⟩
 show 0 ≤ k
 omega
theorem JS.begin {σ : a7} {k : Nat} (h : JS σ k) (who place : Int) : JS (σ.begin who place) (k + 1) := ⟨h.words.mono (by omega), h.seq, h.mx⟩
theorem Uv {σ : a7} (f w most : Int) (hf : 0 ≤ f ∧ f < 1000) (h : ∀ q ∈ σ.obs.map fun q => q.1, 0 ≤ q.flow ∧ q.flow < 1000) : ∀ q ∈ (σ.lay f w most).obs.map fun q => q.1, 0 ≤ q.flow ∧ q.flow < 1000 := by
 intro q hq
 have e : ((σ.lay f w most).obs.map fun q => q.1) = (σ.obs.map fun q => q.1) ++ [⟨f, most, max (σ.c.un / w.toNat) 1⟩] := by simp [a7.lay, a7.make]
 rw [e] at hq
 rcases List.mem_append.1 hq with hq | hq
 ·exact h q hq
 ·rw [List.mem_singleton.1 hq]; exact hf
theorem Bt (c : f0) : ∀ n, n ≤ 16 → ∀ q ∈ (a7.made c n).obs.map fun q => q.1, 0 ≤ q.flow ∧ q.flow < 1000 := by
 intro n
 induction n with
 | zero => intro _ q hq; cases hq
 | succ n ih =>
  intro hn
  unfold a7.made
  split
  ·exact Uv _ _ _ (by omega) (ih (by omega))
  ·exact ih (by omega)
theorem BF (p x : Nat) (rp : List Nat) (σ : a7) (K : Nat) (S : SI σ K) (hK : K ≤ 16) (hf : ∀ q ∈ σ.obs.map fun q => q.1, 0 ≤ q.flow ∧ q.flow < 1000) (lb : Nat) (LL : List (CI × List Cl)) (hL : LL.length = 4) (pv : Value) (picks : List Int) (hpk : ∀ v ∈ picks, -9223372036854775808 ≤ v ∧ v < 9223372036854775808) (blows : Bool) (most : Nat) (hm : most ≤ 400)
 {Z : SP} [hP : Rd Z pv 1 da picks] {P : SP} {H : AH} (h : ae P H) [f : Fr P (bm p rp σ * (bj x σ * (ts 1 iK (vs lb 4 1) (bT LL) * dp LL))) Z] {k : Value × AH → OV} {Q : Value → AH → Prop}
 (hk : ∀ (b : Bool) (σ' : a7) (H' : AH), SI σ' 20000 → ae (bm p rp σ' * (bj x σ' * Z)) H' → wp (k (.tuple #[vb b, vb true], H')) Q) :
 wp ((FF Jy [.agg [vp p, vp x].toArray, vs lb 4 1, pv, vi (most : Int), vb blows] H).bind k) Q := by
 have h0 : ae (bm p rp σ * (bj x σ * (ts 1 iK (vs lb 4 1) (bT LL) * dp LL)) * Z) H := ae.fr h
 have main : wp (FF Jy [.agg [vp p, vp x].toArray, vs lb 4 1, pv, vi (most : Int), vb blows] H) (TuQ p x rp Z) := by
  refine aw (fun r => ai2 _ _ _ _ _ H) ?_
  refine aG (l := [vp p, vp x]) h0 fun pb H1 h1 => ?_
  refine aO h1 fun eb H2 h2 => ?_
  refine aO h2 fun xb H3 h3 => ?_
  refine aO h3 fun ab H4 h4 => ?_
  refine ag (Uo ..) ?_
  refine ag (MY ..) ?_
  refine OI p x pb eb xb ab rp lb LL pv picks blows most (σ.obs.map fun q => q.1) (vb false) (vb false) Z hL hm hpk hf most 0 K 0 σ [none, none, none, none] [.pointer none, .pointer none, .pointer none, .pointer none] [.pointer none, .pointer none, .pointer none, .pointer none] [0, 0, 0, 0] H4 (by omega) S (by omega) rfl (Nat.le_refl _) ⟨rfl, rfl, rfl, rfl, fun w hw => ?_⟩ (fun a ha => ?_) ?_
  ·have : w = 0 ∨ w = 1 ∨ w = 2 ∨ w = 3 := by omega
   rcases this with rfl | rfl | rfl | rfl <;> rfl
  ·simp at ha; omega
  ·show ae (blk pb (.cells false [vp p, vp x]) * (blk eb (.cells false [.pointer none, .pointer none, .pointer none, .pointer none]) * (blk xb (.cells false [.pointer none, .pointer none, .pointer none, .pointer none]) * (blk ab (.cells false [vi 0, vi 0, vi 0, vi 0]) * (bm p rp σ * (bj x σ * ((emp * (emp * (emp * (emp * emp)))) * (ts 1 iK (vs lb 4 1) (bT LL) * (dp LL * Z))))))))) H4
   exact h4.to
 obtain ⟨v, H', e, b, σ', rfl, S', h'⟩ := main
 rw [e]
 exact hk b σ' H' S' h'
theorem WV {H0 : AH} (hT : H0.get 0 = some (.cells true tabC)) (c : f0) (s : Value) (L : List Cl) [hR : Rd (QL H0) s 4 Cl.cells L] (s3 : Value) (l3 : List Int) [hR3 : Rd (QL H0) s3 1 da l3] :
 ∃ H', FF ik [.agg (f0.cells c).toArray, s, s3] H0 = some (vb true, H') := by
 have key : wp (FF ik [.agg (f0.cells c).toArray, s, s3] H0) fun v' _ => v' = vb true := by
  haveI := HW hT
  refine aw (fun r => xV _ _ _ H0) ?_
  refine aG (l := f0.cells c) (DL H0) fun b1 H1 h1 => ?_
  refine aL h1 ?_
  refine af h1 (Jo c 4 (by omega)) fun q H3 h3 => ?_
  obtain ⟨p, x, c'⟩ := q
  dsimp only at h3 ⊢
  rw [ar, ae.pu] at h3
  obtain ⟨hc, h3⟩ := h3
  refine aa (v := .agg [vp p, vp x].toArray) rfl ?_
  refine aa (v := vb true) rfl ?_
  refine aO h3 fun pb H4 h4 => ?_
  refine bX h4 rfl rfl fun H5 h5 => ?_
  refine EM h5 fun H6 h6 => ?_
  with_reducible repeat refine gg ?_
  rw [Bool.not_true]
  with_reducible repeat refine gg ?_
  rw [Bool.not_true]
  with_reducible repeat refine gg ?_
  refine aL h6 ?_
  have M := Js c' hc 4 (by omega)
  obtain ⟨rp, h7⟩ := JK (p := p) (σ := a7.made c' 4) (R := blk pb (.cells false [vp p, vp x]) * (bj x (a7.made c' 4) * (blk b1 (.cells false (f0.cells c)) * QL H0))) (H := H6) h6.to
  refine aaX (s := s) (L := L) 24 (by omega) h7 fun lb LL H8 hL _ h8 => ?_
  refine bg h8 h7 rfl ?_
  refine D9 (s := s3) (l := l3) 9 300 (by omega) (by omega) h8 fun pv o H9 ho hov h9 => ?_
  refine bg h9 h7 rfl ?_
  refine BF p x rp (a7.made c' 4) 16 M.si (Nat.le_refl _) (Bt c' 4 (by omega)) lb LL hL pv o (fun v hv => by have := hov v hv; omega) false 400 (Nat.le_refl _) h9 fun b σ' H10 S' h10 => ?_
  refine aa (v := vb b) rfl ?_
  refine aa (v := vb true) rfl ?_
  refine gt ?_
  refine aL h10 ?_
  refine nZ ?_
  refine af h10 (D7 p x rp σ' (by have := S'.E; omega) (by have := S'.pts; omega)) fun _ H11 h11 => ?_
  refine aa (BI _ _) ?_
  exact ap rfl
 obtain ⟨v, H', e, rfl⟩ := key
 exact ⟨H', e⟩
theorem enqTurns_args {H0 : AH} (hT : H0.get 0 = some (.cells true tabC)) {xc : CfgTy.I} {cc : List Value} (hc : Abs H0 CfgTy xc cc) {l : List ClTy.I} {v : Value} (hl : Abs H0 (.slice ClTy) l [v]) {l3 : List Int} {v3 : Value} (hl3 : Abs H0 (.slice (.int .i64)) l3 [v3]) :
 ∃ H', FF ik [.agg cc.toArray, v, v3] H0 = some (vb true, H') := by
 obtain ⟨c, rfl⟩ := O8 hc
 haveI := zC hl
 haveI := u2 hl3
 exact WV hT c v (l.map V1) v3 l3
theorem afL {H : AH} {l : List Int} {v : Value} (h : Abs H (.slice (.int .i64)) l [v]) : ∀ y ∈ l, -9223372036854775808 ≤ y ∧ y < 9223372036854775808 := by
 rcases h with ⟨rfl, _⟩ | ⟨rfl, _⟩ | ⟨b, row, _, _, hr, _⟩
 ·intro y hy; cases hy
 ·intro y hy; cases hy
 ·have gen : ∀ {l : List Int} {cs : List Value}, iN (Abs H (.int .i64)) l cs → ∀ y ∈ l, -9223372036854775808 ≤ y ∧ y < 9223372036854775808 := by
   intro l cs h
   induction h with
   | nil => intro y hy; cases hy
   | cons h1 _ ih =>
    intro y hy
    rcases List.mem_cons.1 hy with rfl | hy
    ·obtain ⟨_, hw⟩ := h1
     have : -9223372036854775808 ≤ y ∧ y ≤ 9223372036854775807 := by simpa [Lit.wf, IntKind.has, IntKind.min, IntKind.max, IntKind.bits, IntKind.signed] using hw
     omega
    ·exact ih y hy
  exact gen hr
theorem aeB {y : Int} (h : -9223372036854775808 ≤ y ∧ y < 9223372036854775808) : ∃ z, ai .other .add (vi y) (vi 1) = some (vi z) ∧ -9223372036854775808 ≤ z ∧ z < 9223372036854775808 := by
 by_cases h1 : y + 1 < 9223372036854775808
 ·exact ⟨y + 1, aC (by omega) h1, by omega, h1⟩
 ·have e : y = 9223372036854775807 := by omega
  subst e
  exact ⟨-9223372036854775808, rfl, by omega, by omega⟩
theorem WU {H0 : AH} (hT : H0.get 0 = some (.cells true tabC)) (c : f0) (s : Value) (L : List Cl) [hR : Rd (QL H0) s 4 Cl.cells L] (s3 : Value) (l3 : List Int) [hR3 : Rd (QL H0) s3 1 da l3] (s4 : Value) (l4 : List Int) [hR4 : Rd (QL H0) s4 1 da l4] (hl4 : ∀ y ∈ l4, -9223372036854775808 ≤ y ∧ y < 9223372036854775808) :
 ∃ H', FF ij [.agg (f0.cells c).toArray, s, s3, s4] H0 = some (vb true, H') := by
 have key : wp (FF ij [.agg (f0.cells c).toArray, s, s3, s4] H0) fun v' _ => v' = vb true := by
  haveI := HW hT
  refine aw (fun r => xS _ _ _ _ H0) ?_
  refine aG (l := f0.cells c) (DL H0) fun b1 H1 h1 => ?_
  refine aL h1 ?_
  refine af h1 (Jo c 4 (by omega)) fun q H3 h3 => ?_
  obtain ⟨p, x, c'⟩ := q
  dsimp only at h3 ⊢
  rw [ar, ae.pu] at h3
  obtain ⟨hc, h3⟩ := h3
  refine aa (v := .agg [vp p, vp x].toArray) rfl ?_
  refine aa (v := vb true) rfl ?_
  refine aO h3 fun pb H4 h4 => ?_
  refine bX h4 rfl rfl fun H5 h5 => ?_
  refine EM h5 fun H6 h6 => ?_
  with_reducible repeat refine gg ?_
  rw [Bool.not_true]
  with_reducible repeat refine gg ?_
  rw [Bool.not_true]
  with_reducible repeat refine gg ?_
  have M := Js c' hc 4 (by omega)
  obtain ⟨rp, h7⟩ := JK (p := p) (σ := a7.made c' 4) (R := blk pb (.cells false [vp p, vp x]) * (bj x (a7.made c' 4) * (blk b1 (.cells false (f0.cells c)) * QL H0))) (H := H6) h6.to
  refine D9 (s := s3) (l := l3) 9 200 (by omega) (by omega) h7 fun pv o H8 ho hov h8 => ?_
  refine ag (rZ ..) ?_
  refine ag (qS ..) ?_
  have loop : ∀ (d i : Nat) (pv : Value) (o : List Int) (H : AH), i + d = min l4.length 30 → o.length ≤ 200 + 4 * i → (∀ y ∈ o, -9223372036854775808 ≤ y ∧ y < 9223372036854775808) →
   ae (ts 1 da pv o * (bm p rp (a7.made c' 4) * (blk pb (.cells false [vp p, vp x]) * (bj x (a7.made c' 4) * (blk b1 (.cells false (f0.cells c)) * QL H0))))) H →
   wp (fy s s4 (vb false) (vp pb) pv (vi (i : Int)) H) fun v' _ => v' = vb true := by
   intro d
   induction d with
   | zero =>
    intro i pv o H hi ho hov h
    refine ag (jQ ..) ?_
    refine dH (s := s4) (l := l4) h ?_
    have fin : wp (gA s (vb false) (vp pb) pv H) fun v' _ => v' = vb true := by
     refine ag (oG ..) ?_
     refine ag (sa ..) ?_
     refine aL h ?_
     refine aaX (s := s) (L := L) 24 (by omega) h fun lb LL H9 hL _ h9 => ?_
     refine bg h9 h rfl ?_
     refine BF p x rp (a7.made c' 4) 16 M.si (Nat.le_refl _) (Bt c' 4 (by omega)) lb LL hL pv o hov true 400 (Nat.le_refl _) h9 fun b σ' H10 S' h10 => ?_
     refine aa (v := vb b) rfl ?_
     refine aa (v := vb true) rfl ?_
     refine gt ?_
     refine aL h10 ?_
     refine nZ ?_
     refine af h10 (D7 p x rp σ' (by have := S'.E; omega) (by have := S'.pts; omega)) fun _ H11 h11 => ?_
     refine aa (BI _ _) ?_
     exact ap rfl
    by_cases hl : i < l4.length
    ·refine aa (bI (by omega)) ?_
     with_reducible repeat refine gg ?_
     refine aa (bu (by omega)) ?_
     with_reducible repeat refine gg ?_
     exact fin
    ·refine aa (bu (by omega)) ?_
     with_reducible repeat refine gg ?_
     exact fin
   | succ d ih =>
    intro i pv o H hi ho hov h
    have hil : i < l4.length := by omega
    have hy := hl4 l4[i] (List.getElem_mem hil)
    obtain ⟨z, hz, hz2⟩ := aeB hy
    refine ag (jQ ..) ?_
    refine dH (s := s4) (l := l4) h ?_
    refine aa (bI (by omega)) ?_
    with_reducible repeat refine gg ?_
    refine aa (bI (by omega)) ?_
    with_reducible repeat refine gg ?_
    refine ag (qT ..) ?_
    refine HH (s := s4) (enc := da) (l := l4) (i := i) (v := vi l4[i]) h hil rfl fun a ha => ?_
    refine aa (ha h) ?_
    refine iI (s := s4) (l := l4) (v := vi l4[i]) h hil rfl ?_
    refine af h (b9 l4[i] 40 (by omega) (by omega)) fun _ H1 h1 => ?_
    have m40 := dM (v := l4[i]) (n := 40) (by omega)
    refine rO ((ha h1).trans (ha h).symm) ?_
    refine aa (gR (by omega) (by omega)) ?_
    refine aa (aC (by omega) (by omega)) ?_
    refine HH (s := s4) (enc := da) (l := l4) (i := i) (v := vi l4[i]) h1 hil rfl fun a2 ha2 => ?_
    refine aa (ha2 h1) ?_
    refine rO ((ha2 h).trans (ha2 h1).symm) ?_
    refine aa hz ?_
    refine HH (s := s4) (enc := da) (l := l4) (i := i) (v := vi l4[i]) h1 hil rfl fun a3 ha3 => ?_
    refine aa (ha3 h1) ?_
    refine rO ((ha3 h).trans (ha3 h1).symm) ?_
    refine EN (cs := [vi l4[i], vi (8 + 9 * cS l4[i] 40), vi z, vi l4[i]]) h1 rfl fun rb H2 h2 => ?_
    have h3 := qP (e := 1) (enc := da) (l := [l4[i], 8 + 9 * cS l4[i] 40, z, l4[i]]) h2
    refine wC (s := pv) (l := o) (m := [l4[i], 8 + 9 * cS l4[i] 40, z, l4[i]]) h3 ?_ (by omega) fun pv2 H4 h4 => ?_
    ·unfold cp; simp; omega
    refine ag (qU ..) ?_
    refine aa (aC (by omega) (by omega)) ?_
    rw [show ((i : Nat) : Int) + 1 = ((i + 1 : Nat) : Int) from by omega]
    refine ih (i + 1) pv2 (o ++ [l4[i], 8 + 9 * cS l4[i] 40, z, l4[i]]) H4 (by omega) (by simp; omega) (fun y hy2 => ?_) h4.to
    rcases List.mem_append.1 hy2 with hy2 | hy2
    ·exact hov y hy2
    ·simp only [List.mem_cons, List.not_mem_nil, or_false] at hy2
     rcases hy2 with rfl | rfl | rfl | rfl
     ·exact hy
     ·omega
     ·exact hz2
     ·exact hy
  exact loop (min l4.length 30) 0 pv o H8 (by omega) (by omega) (fun v hv => by have := hov v hv; omega) h8
 obtain ⟨v, H', e, rfl⟩ := key
 exact ⟨H', e⟩
theorem enqBlows_args {H0 : AH} (hT : H0.get 0 = some (.cells true tabC)) {xc : CfgTy.I} {cc : List Value} (hc : Abs H0 CfgTy xc cc) {l : List ClTy.I} {v : Value} (hl : Abs H0 (.slice ClTy) l [v]) {l3 : List Int} {v3 : Value} (hl3 : Abs H0 (.slice (.int .i64)) l3 [v3]) {l4 : List Int} {v4 : Value} (hl4 : Abs H0 (.slice (.int .i64)) l4 [v4]) :
 ∃ H', FF ij [.agg cc.toArray, v, v3, v4] H0 = some (vb true, H') := by
 obtain ⟨c, rfl⟩ := O8 hc
 haveI := zC hl
 haveI := u2 hl3
 haveI := u2 hl4
 exact WU hT c v (l.map V1) v3 l3 v4 l4 (afL hl4)
end Go.Proofs.YtodpbobjmkhcfaaGreatDoor.Gst
