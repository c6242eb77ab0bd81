/- Several texts in one. -/
import Derived.DataReads
import Derived.ChangeArms
import Derived.ChangeSame
import Derived.Carry
import Derived.ProofKit
import Derived.Test.YthagelbepgcolaaGreatDoorPc
namespace Go.Proofs.YthagelbepgcolaaGreatDoor.Gst
open Go Go.RowKit
set_option linter.unusedSimpArgs false
def dx (D : Nat) (A A' : List Value) : Prop := A.length = A'.length ∧ ∀ t, D.testBit t = false → A[t]? = A'[t]?
def jU (D : Nat) : Nat → List Value → List Value
 | _, [] => []
 | i, v :: vs => (match D.testBit i with | true => undef | false => v) :: jU D (i + 1) vs
def clear (D : Nat) (A : List Value) : List Value := jU D 0 A
theorem BT (D : Nat) : ∀ (A : List Value) (i : Nat), (jU D i A).length = A.length := by
 intro A
 induction A with
 | nil => intro i; rfl
 | cons v vs ih => intro i; simp [jU, ih]
theorem Is (D : Nat) : ∀ (A : List Value) (i t : Nat), D.testBit (i + t) = false → (jU D i A)[t]? = A[t]? := by
 intro A
 induction A with
 | nil => intro i t _; rfl
 | cons v vs ih =>
  intro i t h
  cases t with
  | zero => simp only [Nat.add_zero] at h; simp [jU, h]
  | succ t => simp only [jU, List.getElem?_cons_succ]; exact ih (i + 1) t (by rw [show i + 1 + t = i + (t + 1) from by omega]; exact h)
theorem cV (D : Nat) (A : List Value) : dx D A (clear D A) := ⟨(BT D A 0).symm, fun t h => (Is D A 0 t (by simpa using h)).symm⟩
def af {R : Type} (D : Nat) (k : List Value → AH → Option R) : Prop := ∀ A A' H, dx D A A' → k A H = k A' H
def opr (D : Nat) : Operand → Bool
 | .tmp t => !D.testBit t
 | _ => true
def MU (D : Nat) : Option Tmp → Nat
 | some d => match D.testBit d with | true => D ^^^ 2 ^ d | false => D
 | none => D
theorem MV {D : Nat} {d : Option Tmp} {t : Nat} (h : D.testBit t = false) : (MU D d).testBit t = false := by
 unfold MU
 split
 ·split
  ·rename_i hd
   rw [Nat.testBit_xor, h, Nat.testBit_two_pow];simp;intro e;subst e; rw [h] at hd; cases hd
  ·exact h
 ·exact h
theorem alB {D : Nat} {d : Option Tmp} {t : Nat} (h : (MU D d).testBit t = false) (hd : d ≠ some t) : D.testBit t = false := by
 unfold MU at h
 split at h
 ·rename_i d
  split at h
  ·rename_i hb
   rw [Nat.testBit_xor, Nat.testBit_two_pow] at h;have : ¬ d = t := fun e => hd (by rw [e])
   simpa [this] using h
  ·exact h
 ·exact h
def oG (D : Nat) (ops : Array Oper) (o : Oper) : Bool :=
 o.op.operands.toList.all (opr D) && match o.guard with
 | none => true
 | some g => match (ops[g.1]?).bind (·.dst) with
  | some t => !D.testBit t
  | none => true
def fg (ops : Array Oper) : List Oper → Nat → Option Nat
 | [], D => some D
 | o :: rest, D => match oG D ops o with
  | true => fg ops rest (MU D o.dst)
  | false => none
def mC : Code → Nat → Option Nat
 | .skip, D => some D
 | .label _, D => some D
 | .region _ ops _, D => fg ops ops.toList D
 | .seq x y, D => match mC x D with
  | some D1 => match mC y D1 with
   | some D2 => some D2
   | none => none
  | none => none
 | .cond c x y, D => match opr D c with
  | true => match mC x D, mC y D with
   | some D1, some D2 => some (D1 ||| D2)
   | _, _ => none
  | false => none
 | .block _ x, D => match mC x D with
  | some _ => some D
  | none => none
 | .loop x, D => match mC x D with
  | some _ => some D
  | none => none
 | .exit _, _ => some 0
 | .ret, _ => some 0
 | _, _ => none
section
variable {P : Program} {G : List Nat} {call : aR} {R : Type}
theorem dx.mono {D D' : Nat} {A A' : List Value} (h : dx D A A') (hm : ∀ t, D'.testBit t = false → D.testBit t = false) : dx D' A A' := ⟨h.1, fun t ht => h.2 t (hm t ht)⟩
theorem dx.ev {D : Nat} {A A' : List Value} (h : dx D A A') {x : Operand} (hx : opr D x = true) : cf A x = cf A' x := by
 cases x with
 | tmp t => simp only [opr, Bool.not_eq_true'] at hx; simp only [cf]; rw [h.2 t hx]
 | _ => rfl
theorem dx.put {D : Nat} {A A' : List Value} (h : dx D A A') (d : Option Tmp) (v : Value) : dx (MU D d) (eF A d v) (eF A' d v) := by
 refine ⟨by rw [hP, hP, h.1], fun t ht => ?_⟩
 by_cases hd : d = some t
 ·subst hd; rw [zd, zd, h.1]
 ·rw [qt hd, qt hd]; exact h.2 t (alB ht hd)
theorem agC {ops : Array Oper} : ∀ {l : List Oper} {D D' : Nat}, fg ops l D = some D' → ∀ t, D.testBit t = false → D'.testBit t = false := by
 intro l
 induction l with
 | nil => intro D D' h t ht; simp only [fg] at h; cases h; exact ht
 | cons o l ih =>
  intro D D' h t ht;simp only [fg] at h
  split at h
  ·exact ih h t (MV ht)
  ·cases h
theorem rj : ∀ {c : Code} {D D' : Nat}, mC c D = some D' → ∀ t, D.testBit t = false → D'.testBit t = false := by
 intro c
 induction c with
 | skip => intro D D' h t ht; simp only [mC] at h; cases h; exact ht
 | label l => intro D D' h t ht; simp only [mC] at h; cases h; exact ht
 | region id ops draw => intro D D' h; simp only [mC] at h; exact agC h
 | seq x y ihx ihy =>
  intro D D' h t ht;simp only [mC] at h
  split at h
  ·rename_i D1 h1
   split at h
   ·rename_i D2 h2; cases h; exact ihy h2 t (ihx h1 t ht)
   ·cases h
  ·cases h
 | cond c x y ihx ihy =>
  intro D D' h t ht;simp only [mC] at h
  split at h
  ·split at h
   ·rename_i D1 D2 h1 h2; cases h
    rw [Nat.testBit_or, ihx h1 t ht, ihy h2 t ht]; rfl
   ·cases h
  ·cases h
 | block id x ih => intro D D' h t ht; simp only [mC] at h; split at h <;> cases h; exact ht
 | loop x ih => intro D D' h t ht; simp only [mC] at h; split at h <;> cases h; exact ht
 | exit id => intro D D' h t ht; simp only [mC] at h; cases h; simp
 | ret => intro D D' h t ht; simp only [mC] at h; cases h; simp
 | rangeFunc => intro D D' h; simp [mC] at h
 | scope => intro D D' h; simp [mC] at h
 | goto => intro D D' h; simp [mC] at h
 | refuse => intro D D' h; simp [mC] at h
inductive Both (D : Nat) : Option (List Value × AH) → Option (List Value × AH) → Prop
 | no : Both D none none
 | yes {A A' : List Value} (H : AH) (h : dx D A A') : Both D (some (A, H)) (some (A', H))
theorem C9 {ops : Array Oper} {o : Oper} {D : Nat} (ho : oG D ops o = true) {A A' : List Value} (h : dx D A A') (H : AH) : Both (MU D o.dst) (bO P G call ops o A H) (bO P G call ops o A' H) := by
 unfold oG at ho;simp only [Bool.and_eq_true] at ho;have hev : ∀ x ∈ o.op.operands.toList, cf A x = cf A' x := fun x hx => h.ev (List.all_eq_true.1 ho.1 x hx)
 have hw : Region.wanted o (bM ops A) = Region.wanted o (bM ops A') := by
  unfold Region.wanted
  cases hg : o.guard with
  | none => rfl
  | some g =>
   obtain ⟨g, want⟩ := g;rw [hg] at ho
   have hy : bM ops A g = bM ops A' g := by
    unfold bM
    cases hd : (ops[g]?).bind (·.dst) with
    | none => rfl
    | some t =>
     have h2 := ho.2;simp only [hd, Bool.not_eq_true'] at h2;simp only [aB];rw [h.2 t h2]
   simp only [hy]
 unfold bO;rw [hw, oT hev H]
 split
 ·split
  ·cases dj P call (cf A') o H with
   | none => exact .no
   | some r => exact .yes r.2 (h.put o.dst r.1)
  ·exact .yes H (h.put o.dst undef)
 ·exact .no
theorem Ai {ops : Array Oper} : ∀ {l : List Oper} {D D' : Nat}, fg ops l D = some D' → ∀ {A A' : List Value}, dx D A A' → ∀ H, Both D' (bJ P G call ops l A H) (bJ P G call ops l A' H) := by
 intro l
 induction l with
 | nil => intro D D' h A A' hA H; simp only [fg] at h; cases h; exact .yes H hA
 | cons o l ih =>
  intro D D' h A A' hA H;simp only [fg] at h
  split at h
  ·rename_i ho
   simp only [bJ];have := C9 (P := P) (G := G) (call := call) ho hA H
   generalize bO P G call ops o A H = x at this
   generalize bO P G call ops o A' H = y at this
   cases this with
   | no => exact .no
   | yes H1 hA1 => exact ih h hA1 H1
  ·cases h
theorem RQ {ops : Array Oper} : ∀ {l : List Oper} {D D' : Nat}, fg ops l D = some D' → ∀ i, ∃ Di, fg ops (l.take i) D = some Di ∧ ∀ o, l[i]? = some o → oG Di ops o = true := by
 intro l
 induction l with
 | nil => intro D D' h i; exact ⟨D, by cases i <;> rfl, fun o ho => by simp at ho⟩
 | cons o l ih =>
  intro D D' h i;simp only [fg] at h
  split at h
  ·rename_i ho
   cases i with
   | zero => exact ⟨D, rfl, fun o' ho' => by simp at ho'; subst ho'; exact ho⟩
   | succ i =>
    obtain ⟨Di, h1, h2⟩ := ih h i;refine ⟨Di, ?_, fun o' ho' => h2 o' (by simpa using ho')⟩;simp only [List.take_succ_cons, fg, ho];exact h1
  ·cases h
theorem I8 {ops : Array Oper} {D D' : Nat} (h : fg ops ops.toList D = some D') {A A' : List Value} (hA : dx D A A') (H : AH) : Both D' (dy P G call ops A H) (dy P G call ops A' H) := by
 unfold dy
 split
 ·exact .no
 ·split
  ·exact Ai h hA H
  ·rename_i p ps hp
   have hb := Ai (P := P) (G := G) (call := call) h hA H
   have key : bJ P G call ops ops.toList A H ≠ none → ((∀ q ∈ p :: ps, jZ P (gT P G call ops A H) ops q) ↔ ∀ q ∈ p :: ps, jZ P (gT P G call ops A' H) ops q) := by
    intro hne
    have hst : ∀ i, ∃ Di, dx Di (gT P G call ops A H i).1 (gT P G call ops A' H i).1 ∧ (gT P G call ops A H i).2 = (gT P G call ops A' H i).2 ∧ ∀ o, ops[i]? = some o → oG Di ops o = true := by
     intro i;obtain ⟨Di, h1, h2⟩ := RQ h i;have hbi := Ai (P := P) (G := G) (call := call) h1 hA H
     cases hx : bJ P G call ops ops.toList A H with
     | none => exact absurd hx hne
     | some r =>
      have h3 := vg hx i;rw [h3] at hbi;unfold gT at hbi ⊢;rw [h3] at hbi ⊢
      generalize bJ P G call ops (ops.toList.take i) A' H = y at hbi
      simp only [Option.getD_some] at hbi ⊢
      generalize hz : gT P G call ops A H i = z at hbi
      unfold gT at hz;rw [h3] at hz;simp only [Option.getD_some] at hz
      cases hbi with
      | yes H1 hA1 =>
       exact ⟨Di, hA1, rfl, fun o ho => h2 o (by simpa using ho)⟩
    have one : ∀ q, jZ P (gT P G call ops A H) ops q ↔ jZ P (gT P G call ops A' H) ops q := by
     intro q;unfold jZ;obtain ⟨D1, a1, e1, o1⟩ := hst q.1;obtain ⟨D2, a2, e2, o2⟩ := hst (if q.2 < q.1 then q.2 else q.2 + 1)
     constructor
     ·intro hl o ho
      have hev : ∀ x ∈ o.op.operands.toList, cf (gT P G call ops A H q.1).1 x = cf (gT P G call ops A' H q.1).1 x := fun x hx => a1.ev (by
       have := o1 o ho;unfold oG at this;simp only [Bool.and_eq_true] at this
       exact List.all_eq_true.1 this.1 x hx)
      have := hl o ho;rw [vv hev, vv hev, e1, e2] at this;exact this
     ·intro hl o ho
      have hev : ∀ x ∈ o.op.operands.toList, cf (gT P G call ops A H q.1).1 x = cf (gT P G call ops A' H q.1).1 x := fun x hx => a1.ev (by
       have := o1 o ho;unfold oG at this;simp only [Bool.and_eq_true] at this
       exact List.all_eq_true.1 this.1 x hx)
      rw [vv hev, vv hev, e1, e2];exact hl o ho
    exact ⟨fun hl q hq => (one q).1 (hl q hq), fun hl q hq => (one q).2 (hl q hq)⟩
   have hn : bJ P G call ops ops.toList A H = none → bJ P G call ops ops.toList A' H = none := by
    intro e; rw [e] at hb; generalize bJ P G call ops ops.toList A' H = y at hb; cases hb; rfl
   by_cases hne : bJ P G call ops ops.toList A H = none
   ·rw [hne, hn hne]
    unfold No
    have : ∀ (c : Prop) [Decidable c], (if c then (none : Option (List Value × AH)) else none) = none := fun c _ => by split <;> rfl
    rw [this, this]; exact .no
   ·unfold No
    by_cases hc : ∀ q ∈ p :: ps, jZ P (gT P G call ops A H) ops q
    ·rw [if_pos hc, if_pos ((key hne).1 hc)]; exact hb
    ·rw [if_neg hc, if_neg (fun h => hc ((key hne).2 h))]; exact .no
inductive BothR (D D' : Nat) : Option AR → Option AR → Prop
 | no : BothR D D' none none
 | normal {A A' : List Value} (H : AH) (h : dx D' A A') : BothR D D' (some (.normal, A, H)) (some (.normal, A', H))
 | exit (i : Nat) {A A' : List Value} (H : AH) (h : dx D A A') : BothR D D' (some (.exit i, A, H)) (some (.exit i, A', H))
 | ret {A A' : List Value} (H : AH) (h : dx D A A') : BothR D D' (some (.ret, A, H)) (some (.ret, A', H))
theorem I6 : ∀ {c : Code} {D D' : Nat}, mC c D = some D' → ∀ {A A' : List Value}, dx D A A' → ∀ H, BothR D D' (ax P G call c A H) (ax P G call c A' H) := by
 intro c
 induction c with
 | skip => intro D D' h A A' hA H; simp only [mC] at h; cases h; exact .normal H hA
 | label l => intro D D' h A A' hA H; simp only [mC] at h; cases h; exact .normal H hA
 | exit id => intro D D' h A A' hA H; exact .exit id H hA
 | ret => intro D D' h A A' hA H; exact .ret H hA
 | region id ops draw =>
  intro D D' h A A' hA H;simp only [mC] at h;simp only [ax]
  have hb : Both D' (fm P G call ops draw A H) (fm P G call ops draw A' H) := by
   cases draw with
   | true => exact I8 h hA H
   | false => exact Ai h hA H
  generalize fm P G call ops draw A H = x at hb
  generalize fm P G call ops draw A' H = y at hb
  cases hb with
  | no => exact .no
  | yes H1 hA1 => exact .normal H1 hA1
 | seq x y ihx ihy =>
  intro D D' h A A' hA H;simp only [mC] at h
  split at h
  ·rename_i D1 h1
   split at h
   ·rename_i D2 h2
    cases h;simp only [ax];have hb := ihx h1 hA H
    generalize ax P G call x A H = u at hb
    generalize ax P G call x A' H = v at hb
    cases hb with
    | no => exact .no
    | normal H1 hA1 =>
     have hb2 := ihy h2 hA1 H1;simp only [aB]
     rename_i A1 A1'
     generalize ax P G call y A1 H1 = u at hb2
     generalize ax P G call y A1' H1 = v at hb2
     cases hb2 with
     | no => exact .no
     | normal H2 hA2 => exact .normal H2 hA2
     | exit i H2 hA2 => exact .exit i H2 (hA2.mono (fun t ht => rj h1 t ht))
     | ret H2 hA2 => exact .ret H2 (hA2.mono (fun t ht => rj h1 t ht))
    | exit i H1 hA1 => exact .exit i H1 hA1
    | ret H1 hA1 => exact .ret H1 hA1
   ·cases h
  ·cases h
 | cond c x y ihx ihy =>
  intro D D' h A A' hA H;simp only [mC] at h
  split at h
  ·rename_i hc
   split at h
   ·rename_i D1 D2 h1 h2
    cases h;simp only [ax];rw [hA.ev hc]
    have m1 : ∀ t, (D1 ||| D2).testBit t = false → D1.testBit t = false := fun t ht => by rw [Nat.testBit_or, Bool.or_eq_false_iff] at ht; exact ht.1
    have m2 : ∀ t, (D1 ||| D2).testBit t = false → D2.testBit t = false := fun t ht => by rw [Nat.testBit_or, Bool.or_eq_false_iff] at ht; exact ht.2
    generalize cf A' c = v
    cases v with
    | bool b =>
     cases b with
     | true =>
      have hb := ihx h1 hA H;simp only
      generalize ax P G call x A H = u at hb
      generalize ax P G call x A' H = v at hb
      cases hb with
      | no => exact .no
      | normal H1 hA1 => exact .normal H1 (hA1.mono m1)
      | exit i H1 hA1 => exact .exit i H1 hA1
      | ret H1 hA1 => exact .ret H1 hA1
     | false =>
      have hb := ihy h2 hA H;simp only
      generalize ax P G call y A H = u at hb
      generalize ax P G call y A' H = v at hb
      cases hb with
      | no => exact .no
      | normal H1 hA1 => exact .normal H1 (hA1.mono m2)
      | exit i H1 hA1 => exact .exit i H1 hA1
      | ret H1 hA1 => exact .ret H1 hA1
    | _ => exact .no
   ·cases h
  ·cases h
 | block id x ih =>
  intro D D' h A A' hA H;simp only [mC] at h
  split at h <;> cases h
  rename_i D1 h1
  simp only [ax];have hb := ih h1 hA H
  generalize ax P G call x A H = u at hb
  generalize ax P G call x A' H = v at hb
  cases hb with
  | no => exact .no
  | normal H1 hA1 => exact .normal H1 (hA1.mono (fun t ht => rj h1 t ht))
  | exit i H1 hA1 =>
   simp only [ff]
   split
   ·exact .normal H1 hA1
   ·exact .exit i H1 hA1
  | ret H1 hA1 => exact .ret H1 hA1
 | loop x ih =>
  intro D D' h A A' hA H;simp only [mC] at h
  split at h <;> cases h
  rename_i D1 h1
  simp only [ax]
  have it : ∀ n {A A' : List Value} (H : AH), dx D A A' → BothR D D (d9 (ax P G call x) n A H) (d9 (ax P G call x) n A' H) := by
   intro n
   induction n with
   | zero => intro A A' H _; exact .no
   | succ n ihn =>
    intro A A' H hA;simp only [d9];have hb := ih h1 hA H
    generalize ax P G call x A H = u at hb
    generalize ax P G call x A' H = v at hb
    cases hb with
    | no => exact .no
    | normal H1 hA1 => exact ihn H1 (hA1.mono (fun t ht => rj h1 t ht))
    | exit i H1 hA1 => exact .exit i H1 hA1
    | ret H1 hA1 => exact .ret H1 hA1
  cases hl : rE (ax P G call x) A H with
  | some r =>
   obtain ⟨n, hn⟩ := cH.1 hl;have hb := it n H hA;rw [hn] at hb
   cases hm : d9 (ax P G call x) n A' H with
   | none => rw [hm] at hb; cases hb
   | some r' =>
    rw [cH.2 ⟨n, hm⟩];rw [hm] at hb;exact hb
  | none =>
   cases hl' : rE (ax P G call x) A' H with
   | none => exact .no
   | some r' =>
    obtain ⟨n, hn⟩ := cH.1 hl';have hb := it n H hA;rw [hn] at hb
    cases hm : d9 (ax P G call x) n A H with
    | none => rw [hm] at hb; cases hb
    | some r => rw [cH.2 ⟨n, hm⟩] at hl; cases hl
 | rangeFunc => intro D D' h; simp [mC] at h
 | scope => intro D D' h; simp [mC] at h
 | goto => intro D D' h; simp [mC] at h
 | refuse => intro D D' h; simp [mC] at h
def nm (D D' : Nat) : Bool := D ||| D' == D'
theorem MN {D D' : Nat} (h : nm D D' = true) : ∀ t, D'.testBit t = false → D.testBit t = false := by
 intro t ht;unfold nm at h
 have e : D ||| D' = D' := by simpa using h
 rw [← e, Nat.testBit_or, Bool.or_eq_false_iff] at ht;exact ht.1
theorem af.le {D D' : Nat} {k : List Value → AH → Option R} (h : af D' k) (hs : nm D D' = true) : af D k := fun A A' H hA => h A A' H (hA.mono (MN hs))
def i5 (c : Code) (D D' : Nat) : Bool := match mC c D with
 | some D1 => nm D1 D'
 | none => false
theorem Xu {c : Code} {D D' : Nat} {kn : List Value → AH → Option R} {kx : Nat → List Value → AH → Option R} {kr : List Value → AH → Option R} (h : i5 c D D' = true) (hn : af D' kn) (hx : ∀ i, af D (kx i)) (hr : af D kr) :
 af D (fun A H => aM P G call c A H kn kx kr) := by
 intro A A' H hA;unfold i5 at h
 split at h
 ·rename_i D1 h1
  simp only;rw [oY, oY];have hb := I6 (P := P) (G := G) (call := call) h1 hA H
  generalize ax P G call c A H = u at hb
  generalize ax P G call c A' H = v at hb
  cases hb with
  | no => rfl
  | normal H1 hA1 => exact hn _ _ H1 (hA1.mono (MN h))
  | exit i H1 hA1 => exact hx i _ _ H1 hA1
  | ret H1 hA1 => exact hr _ _ H1 hA1
 ·cases h
theorem Xw {c : Code} {D : Nat} {kx : Nat → List Value → AH → Option R} {kr : List Value → AH → Option R} (h : i5 c D D = true) (hx : ∀ i, af D (kx i)) (hr : af D kr) :
 af D (fun A H => iF P G call c A H kx kr) := by
 intro A A' H hA;unfold i5 at h
 split at h
 ·rename_i D1 h1
  have hb := I6 (P := P) (G := G) (call := call) (c := .loop c) (D := D) (D' := D) (by simp only [mC, h1]) hA H;simp only [ax] at hb;simp only [iF]
  generalize rE (ax P G call c) A H = u at hb
  generalize rE (ax P G call c) A' H = v at hb
  cases hb with
  | no => rfl
  | normal H1 hA1 => rfl
  | exit i H1 hA1 => exact hx i _ _ H1 hA1
  | ret H1 hA1 => exact hr _ _ H1 hA1
 ·cases h
def DI (D : Nat) (rs : List ResultVar) : Bool := rs.all fun r => match r with
 | .tmp t => !D.testBit t
 | .cell a _ => !D.testBit a
theorem JJ {D : Nat} : ∀ {rs : List ResultVar} (_ : DI D rs = true) (k : List Value → AH → Option R), af D (fun A H => sU P A H rs fun vs => k vs H) := by
 intro rs
 induction rs with
 | nil => intro _ k A A' H hA; rfl
 | cons r rs ih =>
  intro h k A A' H hA;unfold DI at h;simp only [List.all_cons, Bool.and_eq_true] at h
  cases r with
  | tmp t =>
   simp only [Bool.not_eq_true'] at h;simp only [sU];rw [hA.2 t h.1];exact ih h.2 (fun vs H => k ((A'[t]?.getD undef) :: vs) H) A A' H hA
  | cell a t =>
   simp only [Bool.not_eq_true'] at h;simp only [sU];rw [hA.2 a h.1, OR, OR]
   congr 1
   funext g
   cases g <;> (simp only; congr 1; funext v; exact ih h.2 (fun vs H => k (v :: vs) H) A A' H hA)
theorem agV {D : Nat} {rs : List ResultVar} (h : DI D rs = true) : af D (ed P rs) := JJ h fun vs H => some (tup vs, H)
theorem Xx {D : Nat} : af D (fun (_ : List Value) (_ : AH) => (none : Option R)) := fun _ _ _ _ => rfl
theorem Sc {D id : Nat} {kn : List Value → AH → Option R} {kx : Nat → List Value → AH → Option R} (hn : af D kn) (hx : ∀ i, af D (kx i)) : ∀ i, af D (fun A H => if i = id then kn A H else kx i A H) := by
 intro i A A' H hA;simp only
 split
 ·exact hn _ _ _ hA
 ·exact hx i _ _ _ hA
theorem HL {D : Nat} {n : List Value → AH → Option R} (h : af D n) : af D (fun A H => n (clear D A) H) := by
 intro A A' H hA;simp only;rw [← h A (clear D A) H (cV D A), ← h A' (clear D A') H (cV D A')];exact h A A' H hA
variable {A : List Value} {H : AH} {kn : List Value → AH → Option R} {kx : Nat → List Value → AH → Option R} {kr : List Value → AH → Option R}
theorem aiJ {c x y : Code} {e : Operand} (h : c = .cond e x y) : aM P G call c A H kn kx kr = aw (cf A e) (aM P G call x A H kn kx kr) (aM P G call y A H kn kx kr) := by subst h; rfl
theorem Ni {c x : Code} {id : Nat} (h : c = .block id x) {D : Nat} {n : Nat → List Value → AH → Option R} (hn : n = fun i A H => if i = id then kn A H else kx i A H) (hD : ∀ i, af D (n i)) :
 aM P G call c A H kn kx kr = aM P G call x A H kn (fun i A H => n i (clear D A) H) kr := by
 subst h
 have e : (fun i A H => n i (clear D A) H) = n := by
  funext i A H
  exact (hD i A (clear D A) H (cV D A)).symm
 rw [e, hn]; try rfl
theorem aj6 {c x : Code} (h : c = .loop x) : aM P G call c A H kn kx kr = iF P G call x A H kx kr := by subst h; rfl
theorem RG {x : Code} {D : Nat} {n : List Value → AH → Option R} (hn : n = fun A H => iF P G call x A H kx kr) (hD : af D n) : iF P G call x A H kx kr = n (clear D A) H := by
 have := hD A (clear D A) H (cV D A);rw [← this, hn]
theorem RF {x : Code} {D : Nat} {n : List Value → AH → Option R} (hn : n = fun A H => iF P G call x A H kx kr) (hD : af D n) :
 iF P G call x A H kx kr = aM P G call x A H (fun A H => n (clear D A) H) kx kr := by
 have e : (fun A H => n (clear D A) H) = n := by
  funext A H
  exact (hD A (clear D A) H (cV D A)).symm
 rw [e, hn]; exact Yk ..
def Code.pre : Nat → Code → Code
 | 0, .seq x _ => x
 | k + 1, .seq x y => .seq x (Code.pre k y)
 | _, c => c
def Code.post : Nat → Code → Code
 | 0, .seq _ y => y
 | k + 1, .seq _ y => Code.post k y
 | _, _ => .skip
theorem aoF : ∀ (k : Nat) (c : Code) (A : List Value) (H : AH), aM P G call c A H kn kx kr = aM P G call (Code.pre k c) A H (fun A H => aM P G call (Code.post k c) A H kn kx kr) kx kr := by
 intro k
 induction k with
 | zero => intro c A H; cases c <;> rfl
 | succ k ih =>
  intro c A H
  cases c with
  | seq x y =>
   have e : (fun A H => aM P G call y A H kn kx kr) = fun A H => aM P G call (Code.pre k y) A H (fun A H => aM P G call (Code.post k y) A H kn kx kr) kx kr := by
    funext A H; exact ih y A H
   show aM P G call x A H (fun A H => aM P G call y A H kn kx kr) kx kr = _;rw [e]; rfl
  | _ => rfl
variable {l T : Option R}
theorem aoG {c : Code} {k D : Nat} {n : List Value → AH → Option R} (h0 : l = aM P G call c A H kn kx kr) (hn : n = fun A H => aM P G call (Code.post k c) A H kn kx kr) (hD : af D n)
 (h1 : aM P G call (Code.pre k c) A H (fun A H => n (clear D A) H) kx kr = T) : l = T := by
 have e : (fun A H => n (clear D A) H) = n := by
  funext A H
  exact (hD A (clear D A) H (cV D A)).symm
 rw [e, hn] at h1;exact h0.trans ((aoF k c A H).trans h1)
theorem Ns {v v' : Value} {x x' y y' : Option R} (h : v = v') (hx : x = x') (hy : y = y') : aw v x y = aw v' x' y' := by rw [h, hx, hy]
theorem aiK {c x y : Code} {e : Operand} (h0 : l = aM P G call c A H kn kx kr) (h : c = .cond e x y) (h1 : aw (cf A e) (aM P G call x A H kn kx kr) (aM P G call y A H kn kx kr) = T) : l = T := h0.trans ((aiJ h).trans h1)
theorem Yh {c x : Code} {id D : Nat} {n : Nat → List Value → AH → Option R} (h0 : l = aM P G call c A H kn kx kr) (h : c = .block id x) (hn : n = fun i A H => if i = id then kn A H else kx i A H) (hD : ∀ i, af D (n i))
 (h1 : aM P G call x A H kn (fun i A H => n i (clear D A) H) kr = T) : l = T := h0.trans ((Ni h hn hD).trans h1)
theorem aj7 {c x : Code} {D : Nat} {n : List Value → AH → Option R} (h0 : l = aM P G call c A H kn kx kr) (h : c = .loop x) (hn : n = fun A H => iF P G call x A H kx kr) (hD : af D n) (h1 : n (clear D A) H = T) : l = T :=
 h0.trans ((aj6 h).trans ((RG hn hD).trans h1))
theorem aj8 {x : Code} {D : Nat} {n : List Value → AH → Option R} (h0 : l = iF P G call x A H kx kr) (hn : n = fun A H => iF P G call x A H kx kr) (hD : af D n)
 (h1 : aM P G call x A H (fun A H => n (clear D A) H) kx kr = T) : l = T := h0.trans ((RF hn hD).trans h1)
end
abbrev OV := Option (Value × AH)
abbrev u : Value := undef
abbrev KK := List Value → AH → OV
abbrev KX := Nat → List Value → AH → OV
noncomputable abbrev CK (P : Program) (G : List Nat) (call : aR) (c : Code) (kn : KK) (kx : KX) (kr : KK) : KK := fun A H => aM P G call c A H kn kx kr
noncomputable abbrev CL (P : Program) (G : List Nat) (call : aR) (c : Code) (kx : KX) (kr : KK) : KK := fun A H => iF P G call c A H kx kr
abbrev BX (id : Nat) (kn : KK) (kx : KX) : KX := fun i A H => if i = id then kn A H else kx i A H
abbrev bX (D : Nat) (n : KK) : KK := fun A H => n (clear D A) H
abbrev iz (D : Nat) (n : KX) : KX := fun i A H => n i (clear D A) H
def bg : KX := fun _ _ _ => none
def cY : Nat := 2 ^ 4096 - 1
def ls (l : List Value) (n : Nat) : List Value := l ++ List.replicate n u
section
variable {P : Program} {G : List Nat} {call : aR} {A : List Value} {H : AH} {kn : KK} {kx : KX} {kr : KK} {l T : OV}
theorem am : ∀ i, af cY (bg i) := fun _ => Xx
theorem rf {rs : List ResultVar} {D : Nat} (h : DI D rs = true := by kernel_rfl) : af D (ed P rs) := agV h
theorem rc {c : Code} {D Dn Dx Dr : Nat} (hn : af Dn kn) (hx : ∀ i, af Dx (kx i)) (hr : af Dr kr) (h : (i5 c D Dn && (nm D Dx && nm D Dr)) = true := by kernel_rfl) : af D (CK P G call c kn kx kr) := by
 simp only [Bool.and_eq_true] at h;exact Xu h.1 hn (fun i => (hx i).le h.2.1) (hr.le h.2.2)
theorem rl {c : Code} {D Dx Dr : Nat} (hx : ∀ i, af Dx (kx i)) (hr : af Dr kr) (h : (i5 c D D && (nm D Dx && nm D Dr)) = true := by kernel_rfl) : af D (CL P G call c kx kr) := by
 simp only [Bool.and_eq_true] at h;exact Xw h.1 (fun i => (hx i).le h.2.1) (hr.le h.2.2)
theorem rb {D id Dn Dx : Nat} (hn : af Dn kn) (hx : ∀ i, af Dx (kx i)) (h : (nm D Dn && nm D Dx) = true := by kernel_rfl) : ∀ i, af D (BX id kn kx i) := by
 simp only [Bool.and_eq_true] at h;exact Sc (hn.le h.1) (fun i => (hx i).le h.2)
theorem cd {D : Nat} {n : KK} (h : af D n) : af D (bX D n) := HL h
theorem cx {D : Nat} {n : KX} (h : ∀ i, af D (n i)) : ∀ i, af D (iz D n i) := fun i => HL (h i)
theorem pt {c : Code} {D : Nat} {n : KK} (h0 : l = aM P G call c A H kn kx kr) (k : Nat) (hD : af D n) (h1 : aM P G call (Code.pre k c) A H (bX D n) kx kr = T)
 (hn : n = fun A H => aM P G call (Code.post k c) A H kn kx kr := by kernel_rfl) : l = T := aoG h0 hn hD h1
theorem ct {c : Code} (h0 : l = aM P G call c A H kn kx kr) (x y : Code) (e : Operand) {v : Value} {X Y : OV} (hx : aM P G call x A H kn kx kr = X) (hy : aM P G call y A H kn kx kr = Y)
 (h : c = .cond e x y := by kernel_rfl) (he : cf A e = v := by kernel_rfl) : l = aw v X Y := aiK h0 h (Ns he hx hy)
theorem bt {c : Code} {D : Nat} {n : KX} (h0 : l = aM P G call c A H kn kx kr) (x : Code) (id : Nat) (hD : ∀ i, af D (n i)) (h1 : aM P G call x A H kn (iz D n) kr = T)
 (h : c = .block id x := by kernel_rfl) (hn : n = fun i A H => if i = id then kn A H else kx i A H := by kernel_rfl) : l = T := Yh h0 h hn hD h1
theorem li {c : Code} {D : Nat} {n : KK} (h0 : l = aM P G call c A H kn kx kr) (x : Code) (hD : af D n) (h1 : n (clear D A) H = T) (h : c = .loop x := by kernel_rfl)
 (hn : n = fun A H => iF P G call x A H kx kr := by kernel_rfl) : l = T := aj7 h0 h hn hD h1
theorem qr {x : Code} {D : Nat} {n : KK} (h0 : l = iF P G call x A H kx kr) (hD : af D n) (h1 : aM P G call x A H (bX D n) kx kr = T)
 (hn : n = fun A H => iF P G call x A H kx kr := by kernel_rfl) : l = T := aj8 h0 hn hD h1
theorem ht' {id : Nat} (h0 : l = BX id kn kx id A H) (h1 : kn A H = T) : l = T := by rw [h0, ← h1]; simp [BX]
theorem fo {f : Nat} {fn : Func} (hf : P.funcs[f]? = some fn) {args : List Value} {t : OV} {r : Value × AH} (e : SW P G (aF P G) fn.ntmps fn.results.toList (bh fn) args H = t) (h : t = some r)
 (hb : fn.body.isSome = true := by kernel_rfl) (hn : (fn.name == "runtime.NumGoroutine") = false := by kernel_rfl) (hd : PE (bh fn) = none := by kernel_rfl) (hl : fX fn.name = false := by kernel_rfl) : aF P G f args H = some r := O3 hf hb hn hd hl (e.trans h)
end
end Go.Proofs.YthagelbepgcolaaGreatDoor.Gst
namespace Go.Proofs.YthagelbepgcolaaGreatDoor.Gst
open Go Go.RowKit Go.ChangeShapes
set_option linter.unusedSimpArgs false
def Keeps (H H' : AH) : Prop := H.size ≤ H'.size ∧ ∀ b, b < H.size → H'.get b = H.get b
theorem Keeps.refl (H : AH) : Keeps H H := ⟨cr _, fun _ _ => rfl⟩
theorem Keeps.trans {A B C : AH} (h : Keeps A B) (k : Keeps B C) : Keeps A C := ⟨lS h.1 k.1, fun b hb => by rw [k.2 b (by have := h.1; omega), h.2 b hb]⟩
theorem Keeps.push (H : AH) (o : AObj) : Keeps H (H.push o) := ⟨by rw [AH.size_push]; omega, fun b hb => AH.get_push_old hb⟩
theorem Keeps.get {H H' : AH} (h : Keeps H H') {b : Nat} {o : AObj} (hb : H.get b = some o) : H'.get b = some o := by rw [h.2 b (AH.lt_of_get hb)]; exact hb
inductive Ty where
 | int (k : IntKind)
 | bool
 | slice (t : Ty)
 | unit
 | pair (a b : Ty)
def Ty.w : Ty → Nat
 | .int _ | .bool | .slice _ => 1
 | .unit => 0
 | .pair a b => a.w + b.w
abbrev Ty.I : Ty → Type
 | .int _ => Int
 | .bool => Bool
 | .slice t => List t.I
 | .unit => Unit
 | .pair a b => a.I × b.I
inductive iB {α : Type} (R : α → List Value → Prop) : List α → List Value → Prop
 | nil : iB R [] []
 | cons {x : α} {l : List α} {c cs : List Value} (h : R x c) (k : iB R l cs) : iB R (x :: l) (c ++ cs)
def Abs (H : AH) : (t : Ty) → t.I → List Value → Prop
 | .int k, n, cs => cs = [.int k n] ∧ (Lit.int k n).wf = true
 | .bool, b, cs => cs = [.bool b]
 | .unit, _, cs => cs = []
 | .pair a b, x, cs => ∃ c1 c2, cs = c1 ++ c2 ∧ Abs H a x.1 c1 ∧ Abs H b x.2 c2
 | .slice t, l, cs => (l = [] ∧ cs = [.slice none 0 0]) ∨ (l = [] ∧ ∃ b, cs = [.slice (some ⟨b, 0, none⟩) 0 0]) ∨
  ∃ b row, H.get b = some (.cells true row) ∧ cs = [.slice (some ⟨b, 0, none⟩) l.length t.w] ∧ iB (Abs H t) l row ∧ l.length ≤ maxLen
theorem iB.mono {α : Type} {R S : α → List Value → Prop} (h : ∀ x c, R x c → S x c) {l : List α} {cs : List Value} (k : iB R l cs) : iB S l cs := by
 induction k with
 | nil => exact .nil
 | cons h1 _ ih => exact .cons (h _ _ h1) ih
theorem Abs.keep {H H' : AH} (k : Keeps H H') : ∀ (t : Ty) (x : t.I) (cs : List Value), Abs H t x cs → Abs H' t x cs := by
 intro t
 induction t with
 | int k => intro x cs h; exact h
 | bool => intro x cs h; exact h
 | unit => intro x cs h; exact h
 | pair a b iha ihb =>
  intro x cs h;obtain ⟨c1, c2, e, h1, h2⟩ := h;exact ⟨c1, c2, e, iha _ _ h1, ihb _ _ h2⟩
 | slice t ih =>
  intro x cs h
  rcases h with h | h | ⟨b, row, h1, h2, h3, h4⟩
  ·exact .inl h
  ·exact .inr (.inl h)
  ·exact .inr (.inr ⟨b, row, k.get h1, h2, h3.mono ih, h4⟩)
theorem iB.length {α : Type} {R : α → List Value → Prop} {n : Nat} (h : ∀ x c, R x c → c.length = n) {l : List α} {cs : List Value} (k : iB R l cs) : cs.length = l.length * n := by
 induction k with
 | nil => simp
 | cons h1 _ ih => rw [cT, h _ _ h1, ih, List.length_cons, Nat.add_mul]; omega
theorem Abs.length {H : AH} : ∀ (t : Ty) (x : t.I) (cs : List Value), Abs H t x cs → cs.length = t.w := by
 intro t
 induction t with
 | int k => intro x cs h; rw [h.1]; rfl
 | bool => intro x cs h; have h : cs = _ := h; rw [h]; rfl
 | unit => intro x cs h; have h : cs = _ := h; rw [h]; rfl
 | pair a b iha ihb =>
  intro x cs h;obtain ⟨c1, c2, e, h1, h2⟩ := h;rw [e, cT, iha _ _ h1, ihb _ _ h2]; rfl
 | slice t ih =>
  intro x cs h
  rcases h with h | ⟨_, b, h⟩ | ⟨b, row, h1, h2, h3, h4⟩
  ·rw [h.2]; rfl
  ·rw [h]; rfl
  ·rw [h2]; rfl
def oR : (t : Ty) → t.I → Prop
 | .int _, _ => True
 | .bool, _ => True
 | .unit, _ => True
 | .pair a b, x => oR a x.1 ∧ oR b x.2
 | .slice t, l => l.length ≤ reachBytes ∧ ∀ x ∈ l, oR t x
def wOK {Hd : Type} (P : Program) (t : TypeId) (d : DataW Hd) : Prop := ∀ n ∈ DataW.weights P t d, n ≤ reachBytes
theorem vq {Hd : Type} {P : Program} {e : TypeId} {d : DataW Hd} {n : Nat} : ∀ {l : List (DataW Hd)}, d ∈ l → n ∈ DataW.weights P e d → n ∈ DataW.weightsAll P e l := by
 intro l
 induction l with
 | nil => intro h; cases h
 | cons x l ih =>
  intro h hn;rw [DataW.weightsAll, List.mem_append]
  rcases Mj.1 h with rfl | h
  ·exact .inl hn
  ·exact .inr (ih h hn)
theorem EG {Hd : Type} {P : Program} {n : Nat} : ∀ {ts : List TypeId} {ds : List (DataW Hd)} {i : Nat} {t : TypeId} {d : DataW Hd}, ts[i]? = some t → ds[i]? = some d → n ∈ DataW.weights P t d → n ∈ DataW.weightsEach P ts ds := by
 intro ts
 induction ts with
 | nil => intro ds i t d h; simp at h
 | cons t0 ts ih =>
  intro ds i t d h1 h2 hn
  cases ds with
  | nil => simp at h2
  | cons d0 ds =>
   rw [DataW.weightsEach, List.mem_append]
   cases i with
   | zero =>
    simp at h1 h2;subst h1; subst h2;exact .inl hn
   | succ i => exact .inr (ih (by simpa using h1) (by simpa using h2) hn)
def sn (P : Program) : Ty → (TypeId → Bool) × (List Field → Nat → Bool)
 | .int k => (fun t => match P.underlying t with | some (.int k') => k' == k && P.cellsOf t == 1 | _ => false, fun _ _ => false)
 | .bool => (fun t => match P.underlying t with | some .bool => P.cellsOf t == 1 | _ => false, fun _ _ => false)
 | .slice ty => (fun t => match P.underlying t with | some (.slice e) => (sn P ty).1 e && P.cellsOf e == ty.w && decide (0 < ty.w ∧ 0 < P.bytesOf e) && P.cellsOf t == 1 | _ => false, fun _ _ => false)
 | .unit => (fun _ => false, fun fs _ => fs.isEmpty)
 | .pair a b =>
  let F : List Field → Nat → Bool := fun fs off => match fs with
   | f :: fs => f.offset == off && (sn P a).1 f.type && P.cellsOf f.type == a.w && (sn P b).2 fs (off + a.w)
   | [] => false
  (fun t => match P.underlying t with | some (.struct fs) => P.cellsOf t == a.w + b.w && F fs.toList 0 | _ => false, F)
section
variable {Hd : Type} {enc : TypeId × Value → Hd} {P : Program} {w : World} {held : Bool}
theorem Rel.pushRo {B : Nat} {w0 : World} {ρ : aV} {H : AH} (h : Rel P w0 B ρ H w) {row : List Value} {c d sz : Nat} (hc : c < w.heap.size) (hcB : c < B) (hor : sO P ρ d sz (.cells true row) w.heap[c]?) :
 Rel P w0 B (ρ.upd H.size (c, d, sz)) (H.push (.cells true row)) w := by
 have hnone : ρ H.size = none := by
  cases hn : ρ H.size with
  | none => rfl
  | some x => have := h.dom _ _ hn; omega
 have hle := aV.upd_le (x := (c, d, sz)) hnone
 have key : ∀ b1 o1, (H.push (.cells true row)).get b1 = some o1 → (b1 = H.size ∧ o1 = .cells true row) ∨ (b1 < H.size ∧ H.get b1 = some o1) := by
  intro b1 o1 h1;rw [AH.get_push] at h1
  by_cases hb1 : b1 = H.size
  ·rw [if_pos hb1] at h1; exact .inl ⟨hb1, (kT h1).symm⟩
  ·rw [if_neg hb1] at h1; exact .inr ⟨AH.lt_of_get h1, h1⟩
 have old : ∀ {b1 c1 d1 sz1}, b1 < H.size → ρ.upd H.size (c, d, sz) b1 = some (c1, d1, sz1) → ρ b1 = some (c1, d1, sz1) := by
  intro b1 c1 d1 sz1 hb1 hx
  rwa [aV.upd_ne (by omega)] at hx
 have new : ∀ {c1 d1 sz1}, ρ.upd H.size (c, d, sz) H.size = some (c1, d1, sz1) → c1 = c ∧ d1 = d ∧ sz1 = sz := by
  intro c1 d1 sz1 hx;rw [aV.upd_same] at hx;cases hx;exact ⟨rfl, rfl, rfl⟩
 refine ⟨h.base, h.below, ?_, ?_, ?_, ?_, ?_, ?_⟩
 ·intro b1 x hx
  rw [AH.size_push]
  by_cases hb1 : b1 = H.size
  ·omega
  ·rw [aV.upd_ne hb1] at hx; have := h.dom b1 x hx; omega
 ·intro b1 c1 d1 sz1 hx
  by_cases hb1 : b1 = H.size
  ·subst hb1
   obtain ⟨rfl, _, _⟩ := new hx;exact hc
  ·rw [aV.upd_ne hb1] at hx; exact h.blk b1 c1 d1 sz1 hx
 ·intro b1 c1 d1 sz1 o1 hx h1
  rcases key b1 o1 h1 with ⟨rfl, rfl⟩ | ⟨hb1, h1⟩
  ·obtain ⟨rfl, rfl, rfl⟩ := new hx
   exact hor.mono hle
  ·exact (h.obj b1 c1 d1 sz1 o1 (old hb1 hx) h1).mono hle
 ·intro b1 c1 d1 sz1 o1 hx h1 hrw
  rcases key b1 o1 h1 with ⟨rfl, rfl⟩ | ⟨hb1, h1⟩
  ·cases hrw
  ·exact h.own b1 c1 d1 sz1 o1 (old hb1 hx) h1 hrw
 ·intro b1 c1 d1 sz1 cs1 hx h1
  rcases key b1 _ h1 with ⟨rfl, _⟩ | ⟨hb1, h1⟩
  ·obtain ⟨rfl, _, _⟩ := new hx
   exact hcB
  ·exact h.ro b1 c1 d1 sz1 cs1 (old hb1 hx) h1
 ·intro b1 b2 c1 d1 d2 sz1 sz2 o1 o2 hx1 hx2 h1 h2 hr1 hr2
  rcases key b1 o1 h1 with ⟨rfl, rfl⟩ | ⟨hb1, h1⟩
  ·cases hr1
  ·rcases key b2 o2 h2 with ⟨rfl, rfl⟩ | ⟨hb2, h2⟩
   ·cases hr2
   ·exact h.inj b1 b2 c1 d1 d2 sz1 sz2 o1 o2 (old hb1 hx1) (old hb2 hx2) h1 h2 hr1 hr2
theorem Oz {B : Nat} {w0 : World} {ρ : aV} {H : AH} (h : Rel P w0 B ρ H w) (x : Nat × Nat × Nat) : ∀ b y, ρ b = some y → ρ.upd H.size x b = some y :=
 aV.upd_le (by
  cases hn : ρ H.size with
  | none => rfl
  | some x => have := h.dom _ _ hn; omega)
def Got (P : Program) (w : World) (ρ : aV) (H : AH) (ty : Ty) (cs : List Value) (ρ' : aV) (H' : AH) : Prop :=
 ∃ x avs, Rel P w w.heap.size ρ' H' w ∧ (∀ b y, ρ b = some y → ρ' b = some y) ∧ Keeps H H' ∧ LRel P ρ' avs cs ∧ Abs H' ty x avs ∧ oR ty x
theorem Dd {fuel : Nat} {t : TypeId} {cs : List Value} {x : DataW Hd × List MemPlace} (h : DataW.trod enc P w 0 (fun _ => true) held fuel t cs = some x) : ∃ n, fuel = n + 1 := by
 cases fuel with
 | zero => simp [DataW.trod] at h
 | succ n => exact ⟨n, rfl⟩
theorem U2 {ty : Ty} {e : TypeId} {n : Nat} (ih : ∀ (cs : List Value) (x : DataW Hd × List MemPlace) (ρ : aV) (H : AH), Rel P w w.heap.size ρ H w → DataW.trod enc P w 0 (fun _ => true) held n e cs = some x → wOK P e x.1 → ∃ ρ' H', Got P w ρ H ty cs ρ' H')
 (a : Addr) : ∀ (m i : Nat) (ρ : aV) (H : AH), Rel P w w.heap.size ρ H w → (∀ j, i ≤ j → j < i + m → ∃ y, (w.cells? 0 (a.add (j * ty.w)) ty.w).bind (DataW.trod enc P w 0 (fun _ => true) held n e) = some y ∧ wOK P e y.1) →
  ∃ ρ' H' l row cc, Rel P w w.heap.size ρ' H' w ∧ (∀ b y, ρ b = some y → ρ' b = some y) ∧ Keeps H H' ∧ l.length = m ∧ iB (Abs H' ty) l row ∧ LRel P ρ' row cc ∧ (∀ k, k < m * ty.w → w.cell? (a.add (i * ty.w + k)) = cc[k]?) ∧ cc.length = m * ty.w ∧ ∀ x ∈ l, oR ty x := by
 intro m
 induction m with
 | zero =>
  intro i ρ H hR _;exact ⟨ρ, H, [], [], [], hR, fun _ _ h => h, Keeps.refl H, rfl, .nil, LRel.nil, fun k hk => by omega, by simp, fun x hx => by cases hx⟩
 | succ m ihm =>
  intro i ρ H hR hel;obtain ⟨y, hy, hwy⟩ := hel i (cr _) (by omega);obtain ⟨cs, hcs, hy⟩ := ai.1 hy;obtain ⟨ρ1, H1, x, avs, hR1, hle1, hk1, hl1, ha1, hs1⟩ := ih cs y ρ H hR hy hwy;obtain ⟨ρ2, H2, l, row, cc, hR2, hle2, hk2, hlen, hrow, hl2, hcell, hcl, hs2⟩ := ihm (i + 1) ρ1 H1 hR1 (fun j h1 h2 => hel j (by omega) (by omega));obtain ⟨_, hcsl, hcsg⟩ := World.cells?_some hcs;refine ⟨ρ2, H2, x :: l, avs ++ row, cs ++ cc, hR2, fun b y h => hle2 b y (hle1 b y h), hk1.trans hk2, by simp [hlen], .cons (Abs.keep hk2 ty x avs ha1) hrow, (hl1.mono hle2).append hl2, ?_, ?_, ?_⟩
  ·intro k hk
   have hmul : (m + 1) * ty.w = ty.w + m * ty.w := by rw [Nat.add_mul]; omega
   have hmul2 : (i + 1) * ty.w = i * ty.w + ty.w := by rw [Nat.add_mul]; omega
   by_cases hkw : k < ty.w
   ·rw [List.getElem?_append_left (by omega), ← hcsg k hkw]
    congr 1
    unfold Addr.add
    repeat' split
    all_goals first | rfl | omega | (simp; done) | (simp; omega)
   ·rw [List.getElem?_append_right (by omega), hcsl, ← hcell (k - ty.w) (by omega), hmul2]
    congr 2
    omega
  ·rw [cT, hcsl, hcl, Nat.add_mul]; omega
  ·intro z hz
   rcases Mj.1 hz with rfl | hz
   ·exact hs1
   ·exact hs2 z hz
theorem ahE : ∀ (ty : Ty),
 (∀ (t : TypeId), (sn P ty).1 t = true → ∀ (fuel : Nat) (cs : List Value) (x : DataW Hd × List MemPlace) (ρ : aV) (H : AH), Rel P w w.heap.size ρ H w → DataW.trod enc P w 0 (fun _ => true) held fuel t cs = some x → wOK P t x.1 → ∃ ρ' H', Got P w ρ H ty cs ρ' H') ∧
 (∀ (fs : List Field) (off : Nat), (sn P ty).2 fs off = true → ∀ (fuel : Nat) (cs : List Value) (ρ : aV) (H : AH), Rel P w w.heap.size ρ H w → cs.length = off + ty.w →
  (∀ f ∈ fs, ∃ y, DataW.trod enc P w 0 (fun _ => true) held fuel f.type ((cs.drop f.offset).take (P.cellsOf f.type)) = some y ∧ wOK P f.type y.1) → ∃ ρ' H', Got P w ρ H ty (cs.drop off) ρ' H') := by
 intro ty
 induction ty with
 | int k =>
  refine ⟨?_, fun fs off h => by cases h⟩;intro t ht fuel cs x ρ H hR h hwx;obtain ⟨n, rfl⟩ := Dd h;simp only [sn] at ht
  split at ht
  ·rename_i k' hu
   simp only [Bool.and_eq_true, beq_iff_eq] at ht;obtain ⟨rfl, _⟩ := ht;obtain ⟨n, rfl, _, hw⟩ := DataW.trod_int hu h;exact ⟨ρ, H, n, [.int k' n], hR, fun _ _ h => h, Keeps.refl H, LRel.of_all rfl, ⟨rfl, hw⟩, trivial⟩
  ·cases ht
 | bool =>
  refine ⟨?_, fun fs off h => by cases h⟩;intro t ht fuel cs x ρ H hR h hwx;obtain ⟨n, rfl⟩ := Dd h;simp only [sn] at ht
  split at ht
  ·rename_i hu
   obtain ⟨b, rfl, _⟩ := DataW.trod_bool hu h;exact ⟨ρ, H, b, [.bool b], hR, fun _ _ h => h, Keeps.refl H, LRel.of_all rfl, rfl, trivial⟩
  ·cases ht
 | unit =>
  refine ⟨fun t h => by (cases h), ?_⟩;intro fs off hfs fuel cs ρ H hR hl h;refine ⟨ρ, H, (), [], hR, fun _ _ h => h, Keeps.refl H, ?_, rfl, trivial⟩;have : cs.drop off = [] := List.drop_eq_nil_of_le (by simp [Ty.w] at hl; omega);rw [this]; exact LRel.nil
 | slice ty ih =>
  refine ⟨?_, fun fs off h => by cases h⟩;intro t ht fuel cs x ρ H hR h hwx;simp only [sn] at ht
  split at ht
  ·rename_i e hu
   simp only [Bool.and_eq_true, beq_iff_eq, decide_eq_true_eq] at ht;obtain ⟨⟨⟨ht, he⟩, hw, hby⟩, _⟩ := ht
   rcases DataW.trod_slice hu h with ⟨rfl, _⟩ | ⟨a, len, cap, elems, rest, n, rfl, rfl, hx, _, hlc, hcm, hlen, hel, hsp, _⟩
   ·exact ⟨ρ, H, [], [.slice none 0 0], hR, fun _ _ h => h, Keeps.refl H, LRel.of_all rfl, .inl ⟨rfl, rfl⟩, Nat.zero_le _, fun x hx => by cases hx⟩
   ·have hwt : DataW.weights P t x.1 = (elems.length + rest.length) * P.bytesOf e :: (DataW.weightsAll P e (elems.map (·.1)) ++ DataW.weightsAll P e (rest.map (·.1))) := by
     rw [hx];unfold DataW.weights;rw [hu];simp
    have hreach : len ≤ reachBytes := by
     have h1 := hwx _ (by rw [hwt]; exact List.mem_cons_self)
     have h2 : len + rest.length ≤ (elems.length + rest.length) * P.bytesOf e := by
      rw [hlen]
      exact Nat.le_mul_of_pos_right _ hby
     omega
    have hwe : ∀ (y : DataW Hd × List MemPlace), (y ∈ elems ∨ y ∈ rest) → wOK P e y.1 := by
     intro y hy n hn;refine hwx n ?_;rw [hwt, Mj, List.mem_append]
     rcases hy with hy | hy
     ·exact .inr (.inl (vq (List.mem_map.2 ⟨y, hy, rfl⟩) hn))
     ·exact .inr (.inr (vq (List.mem_map.2 ⟨y, hy, rfl⟩) hn))
    rw [he] at hel hsp
    by_cases hc0 : cap = 0
    ·subst hc0
     obtain rfl : len = 0 := by omega
     exact ⟨ρ, H, [], [.slice (some ⟨0, 0, none⟩) 0 0], hR, fun _ _ h => h, Keeps.refl H, LRel.cons .empty LRel.nil, .inr (.inl ⟨rfl, 0, rfl⟩), Nat.zero_le _, fun x hx => by cases hx⟩
    ·have all : ∀ j, 0 ≤ j → j < 0 + cap → ∃ y, (w.cells? 0 (a.add (j * ty.w)) ty.w).bind (DataW.trod enc P w 0 (fun _ => true) held n e) = some y ∧ wOK P e y.1 := by
      intro j _ hj
      by_cases hjl : j < len
      ·rw [hel j hjl]
       exact ⟨elems[j]'(by omega), na (by omega), hwe _ (.inl (tY _))⟩
      ·obtain ⟨hr1, hr2⟩ := hsp rfl
       have := hr2 (j - len) (by omega);rw [show len + (j - len) = j from by omega] at this;rw [this];exact ⟨rest[j - len]'(by omega), na (by omega), hwe _ (.inr (tY _))⟩
     -- all cells of its cg are there
     obtain ⟨_, _, _, _, cca, _, _, _, _, _, _, hca, hcal, _⟩ := U2 (fun cs x ρ H => ih.1 e ht n cs x ρ H) a cap 0 ρ H hR all;obtain ⟨ρ1, H1, l, row, cc, hR1, hle1, hk1, hll, hrow, hl1, hcell, hcl, hsm⟩ := U2 (fun cs x ρ H => ih.1 e ht n cs x ρ H) a len 0 ρ H hR (fun j h1 h2 => all j h1 (by omega));have hpos : 0 < cap * ty.w := Nat.mul_pos (by omega) hw;have h0 := hca 0 hpos;have hsome : ∃ v, cca[0]? = some v := ⟨cca[0]'(by omega), na (by omega)⟩;obtain ⟨v0, hv0⟩ := hsome;rw [hv0] at h0
     have hadd0 : a.add (0 * ty.w + 0) = a := by simp [Addr.add]
     rw [hadd0] at h0;unfold World.cell? at h0
     split at h0
     ·rename_i c el fz hblk
      split at h0
      ·cases h0
      ·rename_i hspot
       obtain ⟨ab, ao, as'⟩ := a
       have : as' = none := by cases as' with | none => rfl | some _ => simp at hspot
       subst this
       have cellsAt : ∀ k, k < cap * ty.w → c[ao + k]? = cca[k]? := by
        intro k hk;have := hca k hk;rw [show 0 * ty.w + k = k from by omega, Addr.add_lit] at this;unfold World.cell? at this;simp only [hblk, Option.isSome_none] at this
        simpa using this
       have hfit : ao + cap * ty.w ≤ c.size := by
        have := cellsAt (cap * ty.w - 1) (by omega);rw [na (by omega)] at this;have := (Array.getElem?_eq_some_iff.1 this).1;omega
       have hsub : len * ty.w ≤ cap * ty.w := Nat.mul_le_mul_right _ hlc
       have hrl : row.length = len * ty.w := by rw [hl1.1, hcl]
       have hccs : (c.toList.drop ao).take row.length = cc := by
        apply List.ext_getElem?;intro k;rw [hrl, List.getElem?_take]
        by_cases hk : k < len * ty.w
        ·rw [if_pos hk, List.getElem?_drop]
         have h1 := hcell k hk;rw [show 0 * ty.w + k = k from by omega, Addr.add_lit] at h1;unfold World.cell? at h1;simp only [hblk, Option.isSome_none] at h1;rw [← h1];simp
        ·rw [if_neg hk, List.getElem?_eq_none (by omega)]
       have hblk' : w.heap[ab]? = some (.cells c el fz) := hblk;have hab : ab < w.heap.size := (Array.getElem?_eq_some_iff.1 hblk').1;have hp := hR1.pushRo (row := row) (c := ab) (d := ao) (sz := c.size) hab hab ⟨c, el, fz, hblk', rfl, by omega, (fun h => by cases h), by rw [hccs]; exact hl1⟩;have hkp := Keeps.push H1 (.cells true row);refine ⟨_, _, l, [.slice (some ⟨H1.size, 0, none⟩) l.length ty.w], hp, fun b y h => Oz hR1 _ b y (hle1 b y h), hk1.trans hkp, LRel.cons ?_ LRel.nil, .inr (.inr ⟨H1.size, row, AH.get_push_new _ _, rfl, hrow.mono (Abs.keep hkp ty), by omega⟩), by rw [hll]; exact hreach, hsm⟩;rw [hll];have := VRel.slice (P := P) (ρ := ρ1.upd H1.size (ab, ao, c.size)) (b := H1.size) (o := 0) (n := len) (e := ty.w) (c := ab) (d := ao) (sz := c.size) (k := cap) (aV.upd_same ..) (by omega) hlc hw
       simpa using this
     ·cases h0
  ·cases ht
 | pair a b iha ihb =>
  have fields : ∀ (fs : List Field) (off : Nat), (sn P (.pair a b)).2 fs off = true → ∀ (fuel : Nat) (cs : List Value) (ρ : aV) (H : AH), Rel P w w.heap.size ρ H w → cs.length = off + (a.w + b.w) →
   (∀ f ∈ fs, ∃ y, DataW.trod enc P w 0 (fun _ => true) held fuel f.type ((cs.drop f.offset).take (P.cellsOf f.type)) = some y ∧ wOK P f.type y.1) → ∃ ρ' H', Got P w ρ H (.pair a b) (cs.drop off) ρ' H' := by
   intro fs off hfs fuel cs ρ H hR hl h;simp only [sn] at hfs
   cases fs with
   | nil => cases hfs
   | cons f fs =>
    simp only [Bool.and_eq_true, beq_iff_eq] at hfs;obtain ⟨⟨⟨h1, h2⟩, h3⟩, h4⟩ := hfs;obtain ⟨y, hy, hwy⟩ := h f (by simp);rw [h1, h3] at hy;obtain ⟨ρ1, H1, x1, a1, hR1, hle1, hk1, hl1, ha1, hs1⟩ := iha.1 f.type h2 fuel _ y ρ H hR hy hwy;obtain ⟨ρ2, H2, x2, a2, hR2, hle2, hk2, hl2, ha2, hs2⟩ := ihb.2 fs (off + a.w) h4 fuel cs ρ1 H1 hR1 (by omega) (fun g hg => h g (by simp [hg]));refine ⟨ρ2, H2, (x1, x2), a1 ++ a2, hR2, fun b y h => hle2 b y (hle1 b y h), hk1.trans hk2, ?_, ⟨a1, a2, rfl, Abs.keep hk2 a x1 a1 ha1, ha2⟩, hs1, hs2⟩
    have e : cs.drop off = (cs.drop off).take a.w ++ cs.drop (off + a.w) := by
     rw [← List.drop_drop];exact (List.take_append_drop a.w (cs.drop off)).symm
    rw [e];exact (hl1.mono hle2).append hl2
  refine ⟨?_, fields⟩;intro t ht fuel cs x ρ H hR h hwx;obtain ⟨n, rfl⟩ := Dd h;have ht' := ht;simp only [sn] at ht
  split at ht
  ·rename_i fs hu
   simp only [Bool.and_eq_true, beq_iff_eq] at ht;obtain ⟨xs, n', _, hxe, hlen, hxl, hxs⟩ := DataW.trod_struct hu h
   have := fields fs.toList 0 ht.2 n' cs ρ H hR (by rw [hlen, ht.1]; simp) (fun f hf => by
    obtain ⟨i, hi, rfl⟩ := List.mem_iff_getElem.1 hf;have := hxs i fs.toList[i] (by simp);rw [this]
    have hix : i < xs.length := by rw [hxl]; simpa using hi
    refine ⟨xs[i]'hix, na _, fun n hn => hwx n ?_⟩;rw [hxe];unfold DataW.weights;rw [hu]
    exact EG (i := i) (by rw [W9, na hi]; rfl) (by rw [W9, na hix]; rfl) hn)
   simpa using this
  ·cases ht
end
def valOf : Ty → List Value → Value
 | .pair _ _, cs => .agg cs.toArray
 | .unit, cs => .agg cs.toArray
 | _, cs => cs.headD undef
abbrev X2 : List Ty → Type
 | [] => Unit
 | t :: ts => t.I × X2 ts
def vt (H : AH) : (ts : List Ty) → X2 ts → List Value → Prop
 | [], _, vs => vs = []
 | t :: ts, x, vs => ∃ cs rest, vs = valOf t cs :: rest ∧ Abs H t x.1 cs ∧ vt H ts x.2 rest
theorem vt.keep {H H' : AH} (k : Keeps H H') : ∀ (ts : List Ty) (x : X2 ts) (vs : List Value), vt H ts x vs → vt H' ts x vs := by
 intro ts
 induction ts with
 | nil => intro x vs h; exact h
 | cons t ts ih =>
  intro x vs h;obtain ⟨cs, rest, e, h1, h2⟩ := h;exact ⟨cs, rest, e, Abs.keep k t _ _ h1, ih _ _ h2⟩
def BM : (ts : List Ty) → X2 ts → Prop
 | [], _ => True
 | t :: ts, x => oR t x.1 ∧ BM ts x.2
def vE (P : Program) : List Ty → List TypeId → Bool
 | [], [] => true
 | ty :: tys, t :: ts => (sn P ty).1 t && P.readableRec t && decide (t < P.types.size) && vE P tys ts
 | _, _ => false
section
variable {Hd : Type} {enc : TypeId × Value → Hd} {P : Program} {w : World} {held : Bool}
theorem ah9 {ty : Ty} {t : TypeId} (ht : (sn P ty).1 t = true) {v : Value} {d : DataW Hd} {ps : List MemPlace} {r : Reach} {b0 : Nat} (hval : Value.okWide P w r b0 t v) (h : DataW.Trod enc P w 0 (fun _ => true) held t v d ps) (hwd : wOK P t d)
 {ρ : aV} {H : AH} (hR : Rel P w w.heap.size ρ H w) : ∃ ρ' H' x avs, Rel P w w.heap.size ρ' H' w ∧ (∀ b y, ρ b = some y → ρ' b = some y) ∧ Keeps H H' ∧ VRel P ρ' (valOf ty avs) v ∧ Abs H' ty x avs ∧ oR ty x := by
 obtain ⟨fuel, h⟩ := h;obtain ⟨ρ', H', x, avs, h1, h2, h3, h4, h5, h6⟩ := (ahE (enc := enc) (P := P) (w := w) (held := held) ty).1 t ht fuel _ _ ρ H hR h hwd;refine ⟨ρ', H', x, avs, h1, h2, h3, ?_, h5, h6⟩;have hlen := Abs.length ty x avs h5
 have one : ∀ (hw : ty.w = 1) (hva : ∀ cs, v ≠ .agg cs), VRel P ρ' (avs.headD undef) v := by
  intro hw hva
  have hc : v.cells.toList = [v] := by
   cases v <;> first | rfl | exact absurd rfl (hva _)
  rw [hc] at h4
  match avs, hlen with
  | [a], _ => exact h4.2 0 a v rfl rfl
  | [], hl => rw [hw] at hl; cases hl
  | a :: b :: l, hl => rw [hw] at hl; simp at hl
 cases ty with
 | int k =>
  refine one rfl (fun cs e => ?_);subst e;simp only [sn] at ht
  split at ht
  ·rename_i hu
   unfold Value.okWide at hval;rw [hu] at hval;unfold Cell.okWide at hval;rw [hu] at hval;unfold Cell.ok at hval;rw [hu] at hval;exact hval
  ·cases ht
 | bool =>
  refine one rfl (fun cs e => ?_);subst e;simp only [sn] at ht
  split at ht
  ·rename_i hu
   unfold Value.okWide at hval;rw [hu] at hval;unfold Cell.okWide at hval;rw [hu] at hval;unfold Cell.ok at hval;rw [hu] at hval;exact hval
  ·cases ht
 | slice e =>
  refine one rfl (fun cs e => ?_);subst e;simp only [sn] at ht
  split at ht
  ·rename_i hu
   unfold Value.okWide at hval;rw [hu] at hval;unfold Cell.okWide at hval;rw [hu] at hval;unfold Cell.ok at hval;rw [hu] at hval;exact hval
  ·cases ht
 | unit => simp only [sn] at ht; cases ht
 | pair a b =>
  simp only [sn] at ht
  split at ht
  ·rename_i fs hu
   unfold Value.okWide at hval;rw [hu] at hval;obtain ⟨cs, rfl, _⟩ := hval;have h4 : LRel P ρ' avs cs.toList := h4;exact .agg (by simpa using h4.1) (fun i x y hx hy => h4.2 i x y (by simpa using hx) (by simpa using hy))
  ·cases ht
theorem Ya : ∀ (tys : List Ty) (ts : List TypeId) (vs : List Value) (ds : List (DataW Hd)) (ps : List MemPlace), vE P tys ts = true → (∀ (j : Nat) t v, ts[j]? = some t → vs[j]? = some v → ∃ r b0, Value.okWide P w r b0 t v) →
 DataW.TrodAll enc P w 0 (fun _ => true) held ts vs ds ps → (∀ n ∈ DataW.weightsEach P ts ds, n ≤ reachBytes) → ∀ (ρ : aV) (H : AH), Rel P w w.heap.size ρ H w →
 ∃ ρ' H' x avs, Rel P w w.heap.size ρ' H' w ∧ (∀ b y, ρ b = some y → ρ' b = some y) ∧ Keeps H H' ∧ LRel P ρ' avs vs ∧ vt H' tys x avs ∧ BM tys x := by
 intro tys
 induction tys with
 | nil =>
  intro ts vs ds ps hc hval h hwd ρ H hR
  cases ts with
  | cons t ts => cases hc
  | nil =>
   obtain ⟨rfl, _, _⟩ := trodAll_nil h;exact ⟨ρ, H, (), [], hR, fun _ _ h => h, Keeps.refl H, LRel.nil, rfl, trivial⟩
 | cons ty tys ih =>
  intro ts vs ds ps hc hval h hwd ρ H hR
  cases ts with
  | nil => cases hc
  | cons t ts =>
   simp only [vE, Bool.and_eq_true] at hc;obtain ⟨⟨⟨hc1, _⟩, _⟩, hc2⟩ := hc;obtain ⟨v, vs', d, ds', p, q, rfl, rfl, rfl, hd, hrest⟩ := trodAll_cons h;obtain ⟨r, b0, hv0⟩ := hval 0 t v rfl rfl;obtain ⟨ρ1, H1, x1, a1, hR1, hle1, hk1, hv1, ha1, hs1⟩ := ah9 hc1 hv0 hd (fun n hn => hwd n (by rw [DataW.weightsEach]; exact List.mem_append_left _ hn)) hR;obtain ⟨ρ2, H2, x2, a2, hR2, hle2, hk2, hl2, ha2, hs2⟩ := ih ts vs' ds' q hc2 (fun j t v h1 h2 => hval (j + 1) t v (by simpa using h1) (by simpa using h2)) hrest (fun n hn => hwd n (by rw [DataW.weightsEach]; exact List.mem_append_right _ hn)) ρ1 H1 hR1;exact ⟨ρ2, H2, (x1, x2), valOf ty a1 :: a2, hR2, fun b y h => hle2 b y (hle1 b y h), hk1.trans hk2, LRel.cons (hv1.mono hle2) hl2, ⟨a1, a2, rfl, Abs.keep hk2 ty x1 a1 ha1, ha2⟩, hs1, hs2⟩
theorem Vw (hl : laidOutB P = true) {W' : World} (hb : Below w.heap.size w W') : ∀ (tys : List Ty) (ts : List TypeId) (vs : List Value) (ds : List (DataW Hd)) (ps : List MemPlace), vE P tys ts = true → (∀ x ∈ ps, x.block < w.heap.size) →
 DataW.TrodAll enc P w 0 (fun _ => true) true ts vs ds ps → DataW.TrodAll enc P W' 0 (fun b => decide (b < w.heap.size)) true ts vs ds ps := by
 intro tys
 induction tys with
 | nil =>
  intro ts vs ds ps hc hlt h
  cases ts with
  | cons t ts => cases hc
  | nil =>
   obtain ⟨rfl, rfl, rfl⟩ := trodAll_nil h;exact trodAll_mk0
 | cons ty tys ih =>
  intro ts vs ds ps hc hlt h
  cases ts with
  | nil => cases hc
  | cons t ts =>
   simp only [vE, Bool.and_eq_true, decide_eq_true_eq] at hc;obtain ⟨⟨⟨_, hc1⟩, hc3⟩, hc2⟩ := hc;obtain ⟨v, vs', d, ds', p, q, rfl, rfl, rfl, hd, hrest⟩ := trodAll_cons h;exact ⟨p, q, Below.trod hl hc1 hc3 hd hb (fun x hx => hlt x (by simp [hx])), ih ts vs' ds' q hc2 (fun x hx => hlt x (by simp [hx])) hrest, rfl⟩
theorem law_post (hm : P.follows .mixedOrders = true) (hl : laidOutB P = true) {G : List Nat} {f : Nat} {fn : Func} {s : ChangeSpec} {tys : List Ty} (hc : vE P tys fn.params.toList = true)
 {tb : TypeId} (hres : fn.resultTypes = #[tb]) (hb : P.underlying tb = some .bool) (hvars : s.vars = [])
 {args : Array Value} {ds gs : List (DataW Hd)} {before : List MemPlace} (hval : ∀ (j : Nat) t v, fn.params[j]? = some t → args[j]? = some v → ∃ r b0, Value.okWide P w r b0 t v)
 (hW : DataW.Whole enc P fn.params.toList s.vars false w args.toList ds gs before) (hspec : s.fn Hd (ds ++ gs) = { results := [.lit (.bool true)], args := ds })
 {ρ0 : aV} {H0 : AH} (hR : Rel P w w.heap.size ρ0 H0 w) (hG : GlobRel ρ0 G)
 (hwt : (DataW.weightsEach P fn.params.toList ds).all (· ≤ reachBytes) = true)
 (run : ∀ (x : X2 tys) (avs : List Value) (H : AH), Keeps H0 H → vt H tys x avs → BM tys x → ∃ H', aF P G f avs H = some (.bool true, H')) :
 Calls P f args w fun e w' => ∃ v, e = .returned v ∧ s.post enc P fn false true false false w args v w' := by
 have hW' := hW;obtain ⟨p, q, hA, hV, rfl, hfz, hnd⟩ := hW;rw [hvars] at hV;obtain ⟨rfl, rfl⟩ := trodVars_none hV;obtain ⟨ρ1, H1, x, avs, hR1, hle1, hk1, hl1, ha1, hs1⟩ := Ya tys fn.params.toList args.toList ds p hc (fun j t v h1 h2 => hval j t v (by simpa using h1) (by simpa using h2)) hA (fun n hn => by simpa using List.all_eq_true.1 hwt n hn) ρ0 H0 hR;obtain ⟨H', hrun⟩ := run x avs H1 hk1 ha1 hs1;have hG1 : GlobRel ρ1 G := fun g hg => let ⟨sz, h⟩ := hG g hg; ⟨sz, hle1 _ _ h⟩;have hcall := ((ao1 (P := P) (G := G) hm).1 f avs H1 _ H' hrun).2 w w.heap.size ρ1 w args.toList hR1 hG1 hl1;rw [show args.toList.toArray = args from by simp] at hcall;refine hcall.mono fun e w' ⟨v', ρ', he, hv, hext, hR'⟩ => ?_
 have hv : v' = .bool true := by
  cases hv with
  | lit h => rfl
 subst hv;subst he
 have hlt : ∀ y ∈ p, y.block < w.heap.size := fun y hy => by
  have := hW'.lt y (by simp [hy])
  simpa using this
 refine ⟨_, rfl, ds, [], p ++ [], [], p, [], hW', ?_, ?_, ?_, ?_, fun h => by cases h⟩
 ·rw [hspec, hres]
  exact ⟨[], [], shut_bool hb true, trodAll_mk0, rfl⟩
 ·rw [hspec]
  exact Vw hl hR'.below tys _ _ _ _ hc hlt hA
 ·rw [hvars, hspec]
  rfl
 ·exact hR'.below.frame _
end
theorem rel_none (P : Program) (w : World) : Rel P w w.heap.size (fun _ => none) ⟨[]⟩ w where
 base := cr _
 below := Below.refl _ _
 dom := fun b x h => by cases h
 blk := fun b c d sz h => by cases h
 obj := fun b c d sz o h => by cases h
 own := fun b c d sz o h => by cases h
 ro := fun b c d sz cs h => by cases h
 inj := fun b b' c d d' sz sz' o o' h => by cases h
end Go.Proofs.YthagelbepgcolaaGreatDoor.Gst
namespace Go.Proofs.YthagelbepgcolaaGreatDoor.Gst
open Go
set_option maxRecDepth 100000
def aJ (n : Nat) : List Nat := if n < 128 then [n] else (n % 128 + 128) :: aJ (n / 128)
termination_by n
decreasing_by omega
theorem dk {n : Nat} (h : n < 128) : aJ n = [n] := by rw [aJ, if_pos h]
theorem s7 {n : Nat} (h : ¬ n < 128) : aJ n = (n % 128 + 128) :: aJ (n / 128) := by rw [aJ, if_neg h]
theorem S6 (n : Nat) : aJ n ≠ [] := by
 by_cases h : n < 128
 ·rw [dk h]; simp
 ·rw [s7 h]; simp
theorem aiP : ∀ (n : Nat), ∀ x ∈ aJ n, x < 256 := by
 intro n
 induction n using Nat.strongRecOn with
 | _ n ih =>
  by_cases h : n < 128
  ·rw [dk h]; intro x hx; simp at hx; omega
  ·rw [s7 h]
   intro x hx;simp only [Mj] at hx
   rcases hx with rfl | hx
   ·omega
   ·exact ih (n / 128) (by omega) x hx
abbrev Ps (α : Type) := List Nat → Except Int (α × List Nat)
def iI : List Nat → Nat → Nat → Except Int (Nat × List Nat)
 | [], _, _ => .error 12
 | x :: l, i, n => if 9 ≤ i then .error 11 else if 127 < x then iI l (i + 1) (n + x % 128 * 2 ^ (7 * i)) else if x = 0 ∧ 0 < i then .error 11 else .ok (n + x * 2 ^ (7 * i), l)
def fM (lo hi : Nat) : Ps Nat := fun l => match iI l 0 0 with
 | .ok (n, r) => if n < lo ∨ hi < n then .error 11 else .ok (n, r)
 | .error e => .error e
def aZ {α β : Type} (p : Ps α) (f : α → Ps β) : Ps β := fun l => match p l with
 | .ok (a, r) => f a r
 | .error e => .error e
def dV {α : Type} (a : α) : Ps α := fun l => .ok (a, l)
def dA {α : Type} (p : Ps α) : Nat → Ps (List α)
 | 0 => dV []
 | k + 1 => aZ p fun a => aZ (dA p k) fun ys => dV (a :: ys)
structure fF {α : Type} (p : Ps α) (l : List Nat) (a : α) : Prop where
 all : ∀ r, p (l ++ r) = .ok (a, r)
 cut : ∀ l' t, l = l' ++ t → t ≠ [] → p l' = .error 12
theorem qy {α : Type} (a : α) : fF (dV a) [] a := ⟨fun r => rfl, fun l' t h ht => by
 have := congrArg List.length h;simp at this
 exact absurd (List.length_eq_zero_iff.1 (by omega)) ht⟩
theorem fF.bind {α β : Type} {p : Ps α} {f : α → Ps β} {l1 l2 : List Nat} {a : α} {b : β} (h1 : fF p l1 a) (h2 : fF (f a) l2 b) : fF (aZ p f) (l1 ++ l2) b := by
 refine ⟨fun r => ?_, fun l' t h ht => ?_⟩
 ·unfold aZ
  rw [List.append_assoc, h1.all];exact h2.all r
 ·unfold aZ
  rcases List.append_eq_append_iff.1 h with ⟨c, rfl, hc⟩ | ⟨c, rfl, hc⟩
  ·rw [h1.all]
   exact h2.cut c t hc ht
  ·by_cases hcn : c = []
   ·subst hcn
    have hc : t = l2 := by simpa using hc
    subst hc;have e := h1.all [];rw [List.append_nil, List.append_nil] at e;rw [e];exact h2.cut [] t rfl ht
   ·rw [h1.cut l' c rfl hcn]
theorem F9 {α : Type} {p : Ps α} {e : α → List Nat} : ∀ (l : List α), (∀ a ∈ l, fF p (e a) a) → fF (dA p l.length) (l.flatMap e) l := by
 intro l
 induction l with
 | nil => intro _; exact qy []
 | cons a l ih =>
  intro h;have h2 : fF (aZ (dA p l.length) fun ys => dV (a :: ys)) (l.flatMap e ++ []) (a :: l) := (ih fun x hx => h x (by simp [hx])).bind (qy _);rw [List.append_nil] at h2;exact (h a (by simp)).bind (f := fun a => aZ (dA p l.length) fun ys => dV (a :: ys)) h2
theorem aoE (i : Nat) : 2 ^ (7 * (i + 1)) = 128 * 2 ^ (7 * i) := by
 rw [Nat.mul_add, Nat.mul_one, Nat.pow_add]; omega
theorem YD : ∀ (m i acc : Nat) (r : List Nat), i ≤ 8 → m < 2 ^ (63 - 7 * i) → (0 < i → 0 < m) → iI (aJ m ++ r) i acc = .ok (acc + m * 2 ^ (7 * i), r) := by
 intro m
 induction m using Nat.strongRecOn with
 | _ m ih =>
  intro i acc r hi hm h0
  by_cases h : m < 128
  ·rw [dk h]
   show iI (m :: r) i acc = _;rw [iI, if_neg (by omega), if_neg (by omega), if_neg (by omega)]
  ·rw [s7 h]
   show iI ((m % 128 + 128) :: (aJ (m / 128) ++ r)) i acc = _
   have hi8 : i < 8 := by
    rcases Nat.lt_or_ge i 8 with h8 | h8
    ·exact h8
    ·have : i = 8 := by omega
     subst this
     have : (2 : Nat) ^ (63 - 7 * 8) = 128 := by decide
     omega
   have hd : m / 128 < 2 ^ (63 - 7 * (i + 1)) := by
    rw [Nat.div_lt_iff_lt_mul (by omega)]
    have e : 63 - 7 * i = 63 - 7 * (i + 1) + 7 := by omega
    rw [e, Nat.pow_add] at hm;exact hm
   rw [iI, if_neg (by omega), if_pos (by omega), ih (m / 128) (by omega) (i + 1) _ r (by omega) hd (fun _ => by omega), aoE]
   have e1 : (m % 128 + 128) % 128 = m % 128 := by omega
   rw [e1]
   generalize 2 ^ (7 * i) = q
   have e2 : m % 128 * q + m / 128 * (128 * q) = m * q := by
    have : m = m % 128 + 128 * (m / 128) := by omega
    calc m % 128 * q + m / 128 * (128 * q) = (m % 128 + 128 * (m / 128)) * q := by rw [Nat.add_mul, ← Nat.mul_assoc, Nat.mul_comm (m / 128) 128]
     _ = m * q := by rw [← this]
   rw [Nat.add_assoc, e2]
theorem YC : ∀ (m i acc : Nat) (l' t : List Nat), i ≤ 8 → m < 2 ^ (63 - 7 * i) → aJ m = l' ++ t → t ≠ [] → iI l' i acc = .error 12 := by
 intro m
 induction m using Nat.strongRecOn with
 | _ m ih =>
  intro i acc l' t hi hm hl ht
  by_cases h : m < 128
  ·rw [dk h] at hl
   cases l' with
   | nil => rfl
   | cons x l' =>
    have := congrArg List.length hl;simp only [cT, List.length_cons, List.length_nil] at this;exact absurd (List.length_eq_zero_iff.1 (by omega)) ht
  ·rw [s7 h] at hl
   have hi8 : i < 8 := by
    rcases Nat.lt_or_ge i 8 with h8 | h8
    ·exact h8
    ·have : i = 8 := by omega
     subst this
     have : (2 : Nat) ^ (63 - 7 * 8) = 128 := by decide
     omega
   have hd : m / 128 < 2 ^ (63 - 7 * (i + 1)) := by
    rw [Nat.div_lt_iff_lt_mul (by omega)]
    have e : 63 - 7 * i = 63 - 7 * (i + 1) + 7 := by omega
    rw [e, Nat.pow_add] at hm;exact hm
   cases l' with
   | nil => rfl
   | cons x l' =>
    simp only [List.cons_append, List.cons.injEq] at hl;obtain ⟨rfl, hl⟩ := hl;rw [iI, if_neg (by omega), if_pos (by omega)];exact ih (m / 128) (by omega) (i + 1) _ l' t (by omega) hd hl ht
theorem l8 {lo hi n : Nat} (h1 : lo ≤ n) (h2 : n ≤ hi) (h3 : n < 2 ^ 63) : fF (fM lo hi) (aJ n) n := by
 refine ⟨fun r => ?_, fun l' t h ht => ?_⟩
 ·unfold fM
  rw [YD n 0 0 r (by omega) (by simpa using h3) (by omega)];simp only [Nat.mul_zero, Nat.pow_zero, Nat.mul_one, Nat.zero_add];rw [if_neg (by omega)]
 ·unfold fM
  rw [YC n 0 0 l' t (by omega) (by simpa using h3) h ht]
structure CfN where
 sh : Nat
 sl : Nat
 wk : Nat
 wd : Nat
 un : Nat
structure nq where
 op : Nat
 flow : Nat
 a : Nat
 b : Nat
structure ScN where
 c : CfN
 ls : List (List nq)
 pk : List Nat
abbrev O0 : Nat := 2147483647
def iG : Ps nq := aZ (fM 0 O0) fun o => aZ (fM 0 O0) fun f => aZ (fM 0 O0) fun a => aZ (fM 0 O0) fun b => dV ⟨o, f, a, b⟩
def dG : Nat → Nat → Ps (List (List nq))
 | 0, _ => dV []
 | w + 1, left => aZ (fM 0 left) fun n => aZ (dA iG n) fun l => aZ (dG w (left - n)) fun ls => dV (l :: ls)
def Ir : Ps CfN := aZ (fM 1 4) fun sh => aZ (fM 1 4) fun sl => aZ (fM 1 6) fun wk => aZ (fM 0 40) fun wd => aZ (fM 1 4611686018427387904) fun un => dV ⟨sh, sl, wk, wd, un⟩
def ul : Ps (CfN × List (List nq)) := aZ Ir fun c => aZ (fM 0 c.wk) fun n => aZ (dG n 60) fun ls => dV (c, ls)
def OB : Ps ScN := aZ ul fun p => aZ (fM 0 4000) fun k => aZ (dA (fM 0 63) k) fun pk => dV ⟨p.1, p.2, pk⟩
def bC (l : List Nat) : Except Int ScN := match OB l with
 | .ok (x, []) => .ok x
 | .ok (_, _ :: _) => .error 11
 | .error e => .error e
def Jb (x : nq) : List Nat := aJ x.op ++ (aJ x.flow ++ (aJ x.a ++ aJ x.b))
def s0 (l : List nq) : List Nat := aJ l.length ++ l.flatMap Jb
def rH (c : CfN) : List Nat := aJ c.sh ++ (aJ c.sl ++ (aJ c.wk ++ (aJ c.wd ++ aJ c.un)))
def dF (s : ScN) : List Nat := rH s.c ++ (aJ s.ls.length ++ (s.ls.flatMap s0 ++ (aJ s.pk.length ++ s.pk.flatMap aJ)))
def nq.Ok (x : nq) : Prop := x.op ≤ O0 ∧ x.flow ≤ O0 ∧ x.a ≤ O0 ∧ x.b ≤ O0
def RD : List (List nq) → Nat
 | [] => 0
 | l :: ls => l.length + RD ls
structure ScN.Ok (s : ScN) : Prop where
 sh : 1 ≤ s.c.sh ∧ s.c.sh ≤ 4
 sl : 1 ≤ s.c.sl ∧ s.c.sl ≤ 4
 wk : 1 ≤ s.c.wk ∧ s.c.wk ≤ 6
 wd : s.c.wd ≤ 40
 un : 1 ≤ s.c.un ∧ s.c.un ≤ 4611686018427387904
 ls : s.ls.length ≤ s.c.wk
 cs : RD s.ls ≤ 60
 cl : ∀ l ∈ s.ls, ∀ x ∈ l, x.Ok
 pl : s.pk.length ≤ 4000
 pk : ∀ n ∈ s.pk, n ≤ 63
theorem mf {α β : Type} {p : Ps α} {f : α → β} {l : List Nat} {a : α} (h : fF p l a) : fF (aZ p fun a => dV (f a)) l (f a) := by
 have := h.bind (f := fun a => dV (f a)) (qy (f a))
 rwa [List.append_nil] at this
theorem Pv {x : nq} (h : x.Ok) : fF iG (Jb x) x := by
 have b : ∀ {n : Nat}, n ≤ O0 → fF (fM 0 O0) (aJ n) n := fun hn => l8 (Nat.zero_le _) hn (Nat.lt_of_le_of_lt hn (by decide));exact (b h.1).bind ((b h.2.1).bind ((b h.2.2.1).bind (mf (f := fun d => (⟨x.op, x.flow, x.a, d⟩ : nq)) (b h.2.2.2))))
theorem Nr : ∀ (ls : List (List nq)) (left : Nat), RD ls ≤ left → left ≤ 60 → (∀ l ∈ ls, ∀ x ∈ l, x.Ok) → fF (dG ls.length left) (ls.flatMap s0) ls := by
 intro ls
 induction ls with
 | nil => intro left _ _ _; exact qy []
 | cons l ls ih =>
  intro left h1 h2 h3;simp only [RD] at h1;have e1 : fF (fM 0 left) (aJ l.length) l.length := l8 (Nat.zero_le _) (by omega) (Nat.lt_of_le_of_lt (show l.length ≤ 60 by omega) (by decide));have e2 : fF (dA iG l.length) (l.flatMap Jb) l := F9 l fun a ha => Pv (h3 l (by simp) a ha);have e3 := ih (left - l.length) (by omega) (by omega) fun q hq => h3 q (by simp [hq]);have e4 := e1.bind (f := fun n => aZ (dA iG n) fun l => aZ (dG ls.length (left - n)) fun ls => dV (l :: ls))
   (e2.bind (f := fun l' => aZ (dG ls.length (left - l.length)) fun ls => dV (l' :: ls)) (mf (f := fun ls => l :: ls) e3))
  rw [List.flatMap_cons];unfold s0;rw [List.append_assoc];exact e4
theorem VO {s : ScN} (h : s.Ok) : fF Ir (rH s.c) s.c := by
 have b : ∀ {lo n k : Nat}, lo ≤ n → n ≤ k → k < 2 ^ 63 → fF (fM lo k) (aJ n) n := fun h1 hn hk => l8 h1 hn (Nat.lt_of_le_of_lt hn hk)
 exact (b h.sh.1 h.sh.2 (by decide)).bind ((b h.sl.1 h.sl.2 (by decide)).bind ((b h.wk.1 h.wk.2 (by decide)).bind ((b (Nat.zero_le _) h.wd (by decide)).bind
  (mf (f := fun un => (⟨s.c.sh, s.c.sl, s.c.wk, s.c.wd, un⟩ : CfN)) (b h.un.1 h.un.2 (by decide))))))
theorem BU {s : ScN} (h : s.Ok) : fF OB (dF s) s := by
 have hw : s.c.wk ≤ 6 := h.wk.2;have e1 : fF (fM 0 s.c.wk) (aJ s.ls.length) s.ls.length := l8 (Nat.zero_le _) h.ls (Nat.lt_of_le_of_lt (show s.ls.length ≤ 6 by have := h.ls; omega) (by decide));have e2 := Nr s.ls 60 h.cs (cr _) h.cl
 have e3 : fF ul (rH s.c ++ (aJ s.ls.length ++ s.ls.flatMap s0)) (s.c, s.ls) :=
  (VO h).bind (f := fun c : CfN => aZ (fM 0 c.wk) fun n => aZ (dG n 60) fun ls => dV (c, ls)) (e1.bind (f := fun n => aZ (dG n 60) fun ls => dV (s.c, ls)) (mf (f := fun ls => (s.c, ls)) e2))
 have e4 : fF (fM 0 4000) (aJ s.pk.length) s.pk.length := l8 (Nat.zero_le _) h.pl (Nat.lt_of_le_of_lt h.pl (by decide));have e5 : fF (dA (fM 0 63) s.pk.length) (s.pk.flatMap aJ) s.pk := F9 s.pk fun n hn => l8 (Nat.zero_le _) (h.pk n hn) (Nat.lt_of_le_of_lt (h.pk n hn) (by decide));have e6 := e3.bind (f := fun p : CfN × List (List nq) => aZ (fM 0 4000) fun k => aZ (dA (fM 0 63) k) fun pk => dV (⟨p.1, p.2, pk⟩ : ScN))
  (e4.bind (f := fun k => aZ (dA (fM 0 63) k) fun pk => dV (⟨s.c, s.ls, pk⟩ : ScN)) (mf (f := fun pk => (⟨s.c, s.ls, pk⟩ : ScN)) e5))
 unfold dF;simp only [List.append_assoc] at e6 ⊢;exact e6
theorem It {s : ScN} (h : s.Ok) : bC (dF s) = .ok s := by
 unfold bC;have := (BU h).all [];rw [List.append_nil] at this;rw [this]
theorem PA {s : ScN} (h : s.Ok) {l t : List Nat} (e : dF s = l ++ t) (ht : t ≠ []) : bC l = .error 12 := by
 unfold bC;rw [(BU h).cut l t e ht]
theorem Nx {s : ScN} (h : s.Ok) (x : Nat) (t : List Nat) : bC (dF s ++ x :: t) = .error 11 := by
 unfold bC;rw [(BU h).all]
theorem wo {lo hi x : Nat} (h : x < 128) (h1 : lo ≤ x) (h2 : x ≤ hi) (L : List Nat) : fM lo hi (x :: L) = .ok (x, L) := by
 unfold fM;rw [iI, if_neg (by omega), if_neg (by omega), if_neg (by omega)];simp only [Nat.mul_zero, Nat.pow_zero, Nat.mul_one, Nat.zero_add];rw [if_neg (by omega)]
theorem akC {lo hi x : Nat} (h : x < 128) (h1 : x < lo ∨ hi < x) (L : List Nat) : fM lo hi (x :: L) = .error 11 := by
 unfold fM;rw [iI, if_neg (by omega), if_neg (by omega), if_neg (by omega)];simp only [Nat.mul_zero, Nat.pow_zero, Nat.mul_one, Nat.zero_add];rw [if_pos h1]
theorem Pw (L : List Nat) : ∀ (m i n : Nat), 0 < i → iI (List.replicate m 128 ++ 0 :: L) i n = .error 11 := by
 intro m
 induction m with
 | zero =>
  intro i n hi;show iI (0 :: L) i n = _;rw [iI]
  split
  ·rfl
  ·rw [if_neg (by omega), if_pos ⟨rfl, hi⟩]
 | succ m ih =>
  intro i n hi;rw [List.replicate_succ, List.cons_append, iI]
  split
  ·rfl
  ·rw [if_pos (by omega)]
   exact ih _ _ (by omega)
theorem agB {lo hi x : Nat} (m : Nat) (L : List Nat) : fM lo hi ((x + 128) :: (List.replicate m 128 ++ 0 :: L)) = .error 11 := by
 unfold fM;rw [iI, if_neg (by omega), if_pos (by omega), Pw L m _ _ (by omega)]
theorem Pz {L : List Nat} {e : Int} (h : Ir L = .error e) : bC L = .error e := by
 unfold bC OB
 have h1 : ul L = .error e := by
  unfold ul;unfold aZ;rw [h]
 simp only [aZ, h1]
theorem oW {α β : Type} {p : Ps α} {f : α → Ps β} {L : List Nat} {a : α} {r : List Nat} (h : p L = .ok (a, r)) : aZ p f L = f a r := by unfold aZ; rw [h]
theorem zf {α β : Type} {p : Ps α} {f : α → Ps β} {L : List Nat} {e : Int} (h : p L = .error e) : aZ p f L = .error e := by unfold aZ; rw [h]
def loK (k : Nat) : Nat := if k < 3 then 1 else 0
def hiK (k : Nat) : Nat := if k < 2 then 4 else if k = 2 then 6 else 40
theorem SY {L0 : List Nat} {sh sl wk wd : Nat} (h1 : 1 ≤ sh ∧ sh ≤ 4) (h2 : 1 ≤ sl ∧ sl ≤ 4) (h3 : 1 ≤ wk ∧ wk ≤ 6) {k : Nat} (hk : k < 4) (hL : fM (loK k) (hiK k) L0 = .error 11) :
 bC ([sh, sl, wk, wd].take k ++ L0) = .error 11 := by
 refine Pz ?_;unfold Ir
 match k, hk, hL with
 | 0, _, hL => exact zf hL
 | 1, _, hL =>
  show aZ (fM 1 4) _ (sh :: L0) = _;rw [oW (wo (by omega) h1.1 h1.2 _)];exact zf hL
 | 2, _, hL =>
  show aZ (fM 1 4) _ (sh :: sl :: L0) = _;rw [oW (wo (by omega) h1.1 h1.2 _), oW (wo (by omega) h2.1 h2.2 _)];exact zf hL
 | 3, _, hL =>
  show aZ (fM 1 4) _ (sh :: sl :: wk :: L0) = _;rw [oW (wo (by omega) h1.1 h1.2 _), oW (wo (by omega) h2.1 h2.2 _), oW (wo (by omega) h3.1 h3.2 _)];exact zf hL
theorem s8 {s : ScN} (h : s.Ok) : ∃ T, dF s = s.c.sh :: s.c.sl :: s.c.wk :: s.c.wd :: T := by
 have := h.sh; have := h.sl; have := h.wk; have := h.wd;unfold dF rH;rw [dk (n := s.c.sh) (by omega), dk (n := s.c.sl) (by omega), dk (n := s.c.wk) (by omega), dk (n := s.c.wd) (by omega)];exact ⟨_, rfl⟩
theorem W3 {s : ScN} (h : s.Ok) {k x : Nat} (hk : k < 4) (hx : x < 128) (hb : x < loK k ∨ hiK k < x) : bC ((dF s).set k x) = .error 11 := by
 obtain ⟨T, hT⟩ := s8 h;rw [hT];have key := fun T' => SY (L0 := x :: T') (wd := s.c.wd) h.sh h.sl h.wk hk (akC hx hb T')
 match k, hk, key with
 | 0, _, key => exact key (s.c.sl :: s.c.wk :: s.c.wd :: T)
 | 1, _, key => exact key (s.c.wk :: s.c.wd :: T)
 | 2, _, key => exact key (s.c.wd :: T)
 | 3, _, key => exact key T
theorem Ry {s : ScN} (h : s.Ok) {k m : Nat} (hk : k < 4) : ∃ hl : k < (dF s).length, (dF s)[k] < 128 ∧ bC ((dF s).take k ++ (((dF s)[k] + 128) :: (List.replicate m 128 ++ 0 :: (dF s).drop (k + 1)))) = .error 11 := by
 obtain ⟨T, hT⟩ := s8 h;have h1 := h.sh; have h2 := h.sl; have h3 := h.wk; have h4 := h.wd;have key := fun x T' => SY (L0 := (x + 128) :: (List.replicate m 128 ++ 0 :: T')) (wd := s.c.wd) h.sh h.sl h.wk hk (agB m T');simp only [hT]
 match k, hk, key with
 | 0, _, key => exact ⟨by simp, by show s.c.sh < 128; omega, key s.c.sh (s.c.sl :: s.c.wk :: s.c.wd :: T)⟩
 | 1, _, key => exact ⟨by simp, by show s.c.sl < 128; omega, key s.c.sl (s.c.wk :: s.c.wd :: T)⟩
 | 2, _, key => exact ⟨by simp, by show s.c.wk < 128; omega, key s.c.wk (s.c.wd :: T)⟩
 | 3, _, key => exact ⟨by simp, by show s.c.wd < 128; omega, key s.c.wd T⟩
theorem Gj {s : ScN} (h : s.Ok) : 7 ≤ (dF s).length := by
 obtain ⟨T, hT⟩ := s8 h
 have e : (dF s).length = (rH s.c).length + ((aJ s.ls.length).length + ((s.ls.flatMap s0).length + ((aJ s.pk.length).length + (s.pk.flatMap aJ).length))) := by
  unfold dF; simp only [cT]
 have k : ∀ n, 1 ≤ (aJ n).length := fun n => List.length_pos_iff.2 (S6 n)
 have e2 : 5 ≤ (rH s.c).length := by
  unfold rH; simp only [cT];have := k s.c.sh; have := k s.c.sl; have := k s.c.wk; have := k s.c.wd; have := k s.c.un;omega
 have := k s.ls.length; have := k s.pk.length;omega
def DX (L : List Nat) : Int := match bC L with | .ok _ => 0 | .error e => e
theorem ab1 : ∀ k : Fin 7, ∀ x : Fin 60, 1 ≤ k.val → DX [1, 1, k.val, 0, 1, k.val + 1 + x.val] = 11 := by decide +kernel
theorem ab2 : ∀ x : Fin 60, DX [1, 1, 1, 0, 1, 1, 61 + x.val] = 11 := by decide +kernel
theorem ab3 : ∀ x : Fin 60, DX [1, 1, 1, 0, 1, 0, 1, 64 + x.val] = 11 := by decide +kernel
theorem ab4 : DX [1, 1, 1, 0, 1, 0, 1, 63] = 0 := by decide +kernel
theorem ab5 : DX [1, 1, 1, 0, 1, 0, 161, 31] = 11 := by decide +kernel
theorem ab6 : DX [1, 1, 1, 0, 1, 0, 160, 31] = 12 := by decide +kernel
def apV (x : Nat) : List Nat := [1, 1, 2, 0, 1, 2, x] ++ (List.range (4 * x)).map (· % 128)
theorem ab7 : ∀ x : Fin 60, DX (apV x.val ++ [61 - x.val]) = 11 := by decide +kernel
theorem ab8 : ∀ x : Fin 60, DX (apV x.val ++ [60 - x.val]) = 12 := by decide +kernel
def i3 (j i : Nat) : List Nat := [1, 1, 1, 0, 1, 1, 1] ++ (List.range i).flatMap fun t => if t = j then [255, 255, 255, 255, 7] else [1]
def gH (j i : Nat) : List Nat := [1, 1, 1, 0, 1, 1, 1] ++ (List.range i).flatMap fun t => if t = j then [128, 128, 128, 128, 8] else [1]
theorem ab9 : ∀ j : Fin 4, DX (i3 j.val 4 ++ [0]) = 0 := by decide +kernel
theorem aqA : ∀ j : Fin 4, DX (gH j.val 4 ++ [0]) = 11 := by decide +kernel
theorem NA {s : ScN} (h : s.Ok) (hl : s.ls ≠ []) : 8 ≤ (dF s).length := by
 have e : (dF s).length = (rH s.c).length + ((aJ s.ls.length).length + ((s.ls.flatMap s0).length + ((aJ s.pk.length).length + (s.pk.flatMap aJ).length))) := by
  unfold dF; simp only [cT]
 have k : ∀ n, 1 ≤ (aJ n).length := fun n => List.length_pos_iff.2 (S6 n)
 have e2 : 5 ≤ (rH s.c).length := by
  unfold rH; simp only [cT];have := k s.c.sh; have := k s.c.sl; have := k s.c.wk; have := k s.c.wd; have := k s.c.un;omega
 have e3 : 1 ≤ (s.ls.flatMap s0).length := by
  match hs : s.ls, hl with
  | l :: ls, _ =>
   rw [List.flatMap_cons, cT];unfold s0;rw [cT];have := k l.length;omega
 have := k s.ls.length; have := k s.pk.length;omega
end Go.Proofs.YthagelbepgcolaaGreatDoor.Gst
namespace Go.Proofs.YthagelbepgcolaaGreatDoor.Gst
open Go Go.RowKit
set_option linter.unusedSimpArgs false
set_option linter.unusedVariables false
set_option maxRecDepth 100000
set_option maxHeartbeats 1000000
def enc : BO → Value
 | .ret v => .iface 1 v
 | .pan v => .iface 0 v
def bE (b : bK) : aR := fun f args H => (b f args H).map fun r => (enc r.1, r.2)
theorem JY {b : bK} {f : Nat} {args : List Value} {H H' : AH} {v : Value} : bE b f args H = some (.iface 1 v, H') ↔ fe b f args H = some (v, H') := by
 rw [dH];unfold bE
 constructor
 ·intro h
  obtain ⟨⟨o, H1⟩, h1, e⟩ := au.1 h;have e1 := (Prod.mk.inj e).1;have e2 := (Prod.mk.inj e).2;have e2 : H1 = H' := e2
  cases o with
  | ret w => simp [enc] at e1; subst e1; subst e2; exact h1
  | pan w => simp [enc] at e1
 ·intro h; rw [h]; rfl
section
variable {R : Type}
def On (x : Value) (k : Value → Option R) : Option R :=
 match x with
 | .iface t v => k (.iface t v)
 | _ => none
def dO (x : Value) (k p : Value → Option R) : Option R :=
 match x with
 | .iface 0 v => p v
 | .iface 1 v => k v
 | _ => none
abbrev S5 (P : Program) (b : bK) (ev : Operand → Value) (o : Oper) (H : AH) (k : Value → AH → Option R) (kp : Value → AH → Option R) : Option R :=
 match o.op with
 | .panic x => On (ev x) fun v => kp v H
 | .makeInterface t x => match P.underlying t with
  | some (.interface _) => none
  | some _ => k (.iface t (ev x)) H
  | none => none
 | .slice t x lo hi none => match P.underlying t with
  | some .string => (rp (ev x) (lo.map ev) (hi.map ev)).bind fun v => k v H
  | _ => Yl P gu ev o H k
 | .convert src dst x => match xd P src dst with
  | true => (kj (ev x) H).bind fun v => k v H
  | false => Yl P gu ev o H k
 | .call c => match c.callee with
  | .builtin .panic => match c.args.toList.map ev with
   | [x] => On x fun v => kp v H
   | _ => none
  | .builtin bi => oX P bi c.argTypes (c.args.toList.map ev) H k
  | .value f => (dt (ev f) (c.args.toList.map ev)).bind fun fa => (bE b fa.1 fa.2 H).bind fun r => dO r.1 (fun v => k v r.2) (fun v => kp v r.2)
  | _ => none
 | _ => Yl P gu ev o H k
def spK (x : Option Spc) (H : AH) (k : Value → AH → Option R) (kp : Value → AH → Option R) (d : Option R) : Option R :=
 match x with
 | some (.pan v H') => kp v H'
 | some (.val v) => k v H
 | none => d
theorem Fy {P : Program} {call : aR} {ev : Operand → Value} {o : Oper} {H : AH} (h : ∀ c, o.op ≠ .call c) : dj P gu ev o H = dj P call ev o H := by
 obtain ⟨dst, op, type, pos, after, guard⟩ := o
 cases op with
 | call c => exact absurd rfl (h c)
 | makeMap t r => cases r <;> rfl
 | slice t x lo hi mx => cases lo <;> cases hi <;> cases mx <;> rfl
 | _ => rfl
theorem amX (P : Program) (b : bK) (ev : Operand → Value) (o : Oper) (H : AH) (k : Value → AH → Option R) (kp : Value → AH → Option R) :
 S5 P b ev o H k kp = spK (ec P b ev o.op H) H k kp ((dj P (fe b) ev o H).bind fun r => k r.1 r.2) := by
 obtain ⟨dst, op, type, pos, after, guard⟩ := o
 by_cases hc : ∃ c, op = .call c
 ·obtain ⟨c, rfl⟩ := hc
  obtain ⟨callee, args, ats⟩ := c
  cases callee with
  | invoke r m => rfl
  | value f =>
   simp only [S5, ec, dj]
   cases dt (ev f) (args.toList.map ev) with
   | none => rfl
   | some fa =>
    simp only [aB];unfold bE fe
    cases b fa.1 fa.2 H with
    | none => rfl
    | some r =>
     obtain ⟨o, H1⟩ := r
     cases o <;> rfl
  | builtin bi =>
   by_cases hb : bi = .panic
   ·subst hb
    simp only [S5, ec, dj]
    generalize args.toList.map ev = l
    match l with
    | [] => rfl
    | [x] => cases x <;> rfl
    | x :: y :: z => cases x <;> rfl
   ·have e : S5 P b ev ⟨dst, .call ⟨.builtin bi, args, ats⟩, type, pos, after, guard⟩ H k kp = oX P bi ats (args.toList.map ev) H k := by cases bi <;> first | rfl | exact absurd rfl hb
    have e2 : ec P b ev (.call ⟨.builtin bi, args, ats⟩) H = none := by cases bi <;> first | rfl | exact absurd rfl hb
    rw [e, e2, Nm]
    rfl
 ·have hn : ∀ c, op ≠ .call c := fun c e => hc ⟨c, e⟩
  by_cases hp : ∃ x, op = .panic x
  ·obtain ⟨x, rfl⟩ := hp
   simp only [S5, ec]
   cases ev x <;> rfl
  ·by_cases hmi : ∃ t x, op = .makeInterface t x
   ·obtain ⟨t, x, rfl⟩ := hmi
    simp only [S5, ec]
    cases P.underlying t with
    | none => rfl
    | some d => cases d <;> rfl
   ·by_cases hsl : ∃ t x lo hi, op = .slice t x lo hi none ∧ P.underlying t = some .string
    ·obtain ⟨t, x, lo, hi, rfl, hu⟩ := hsl
     simp only [S5, ec, hu]
     cases rp (ev x) (lo.map ev) (hi.map ev) with
     | none =>
      simp only [Option.bind_none, Option.map_none, spK, dj];unfold bN;rw [hu]
      rfl
     | some v => rfl
    by_cases hcv : ∃ src dst x, op = .convert src dst x ∧ xd P src dst = true
    ·obtain ⟨src, dst, x, rfl, hu⟩ := hcv
     simp only [S5, ec, hu]
     cases kj (ev x) H with
     | none =>
      obtain ⟨e, h1, h2, h3⟩ := Cj hu
      have : k9 P dst = none := by unfold k9; rw [h3]
      simp only [Option.bind_none, Option.map_none, spK, dj, h1, this]
      cases ev x <;> rfl
     | some v => rfl
    have hcn : ∀ src dst x, op = .convert src dst x → xd P src dst = false := fun src dst x e => by
     cases hu : xd P src dst with
     | true => exact absurd ⟨src, dst, x, e, hu⟩ hcv
     | false => rfl
    have hsn : ∀ t x lo hi, op = .slice t x lo hi none → P.underlying t ≠ some .string := fun t x lo hi e hu => hsl ⟨t, x, lo, hi, e, hu⟩
    have e : S5 P b ev ⟨dst, op, type, pos, after, guard⟩ H k kp = Yl P gu ev ⟨dst, op, type, pos, after, guard⟩ H k := by
     cases op
     case slice t x lo hi mx =>
      cases mx with
      | some m => rfl
      | none =>
       have := hsn t x lo hi rfl;simp only [S5]
       all_goals (split <;> first | rfl | (rename_i hu; exact absurd hu this))
     case convert src dst x => simp only [S5, hcn src dst x rfl]
     all_goals first | rfl | exact absurd ⟨_, rfl⟩ hc | exact absurd ⟨_, rfl⟩ hp | exact absurd ⟨_, _, rfl⟩ hmi
    have e2 : ec P b ev op H = none := by
     cases op
     case slice t x lo hi mx =>
      cases mx with
      | some m => rfl
      | none =>
       have := hsn t x lo hi rfl;simp only [ec]
       all_goals (split <;> first | rfl | (rename_i hu; exact absurd hu this))
     case convert src dst x => simp only [ec, hcn src dst x rfl]
     all_goals first | rfl | exact absurd ⟨_, rfl⟩ hc | exact absurd ⟨_, rfl⟩ hp | exact absurd ⟨_, _, rfl⟩ hmi
    rw [e, Pq, Fy (call := fe b) hn];show _ = spK (ec P b ev op H) H k kp _;rw [e2]
    rfl
def N9 (P : Program) (op : Op) : Bool :=
 match op with
 | .panic _ => true
 | .makeInterface .. => true
 | .slice t _ _ _ none => match P.underlying t with
  | some .string => true
  | _ => false
 | .convert src dst _ => xd P src dst
 | .call _ => true
 | _ => false
abbrev YA (P : Program) (G : List Nat) (b : bK) (ops : Array Oper) (o : Oper) (A : List Value) (H : AH) (k : List Value → AH → Option R) (kp : Value → AH → Option R) : Option R :=
 match N9 P o.op with
 | false => F5 P G gu ops o A H k
 | true => match o.op.operands.toList.all (Hx G) with
  | true => match o.guard with
   | none => S5 P b (cf A) o H (fun v H' => k (eF A o.dst v) H') kp
   | some g => match bM ops A g.1 == some g.2 with
    | true => S5 P b (cf A) o H (fun v H' => k (eF A o.dst v) H') kp
    | false => k (eF A o.dst undef) H
  | false => none
theorem Pe {P : Program} {b : bK} {ev : Operand → Value} {op : Op} {H : AH} (h : N9 P op = false) : ec P b ev op H = none := by
 cases op
 case slice t x lo hi mx =>
  cases mx with
  | some m => rfl
  | none =>
   simp only [N9] at h;simp only [ec]
   split
   ·rename_i hu; rw [hu] at h; cases h
   ·rfl
 case convert src dst x =>
  have h : xd P src dst = false := h;simp only [ec, h]
 all_goals first | rfl | cases h
theorem JX {P : Program} {G : List Nat} {call : aR} {ops : Array Oper} {o : Oper} {A : List Value} {H : AH} (h : N9 P o.op = false) : bO P G gu ops o A H = bO P G call ops o A H := by
 unfold bO;rw [Fy (call := call) (fun c e => by rw [e] at h; cases h)]
theorem YB (P : Program) (G : List Nat) (b : bK) (ops : Array Oper) (o : Oper) (A : List Value) (H : AH) (k : List Value → AH → Option R) (kp : Value → AH → Option R) :
 YA P G b ops o A H k kp = spK (J0 P G b ops o A H) H (fun v H' => k (eF A o.dst v) H') kp ((bO P G (fe b) ops o A H).bind fun s => k s.1 s.2) := by
 unfold YA J0
 cases hs : N9 P o.op with
 | false =>
  simp only;rw [zi, JX (call := fe b) hs]
  split
  ·rw [Pe hs]; rfl
  ·rfl
 | true =>
  simp only
  cases hok : o.op.operands.toList.all (Hx G) with
  | false => simp [bO, hok, spK]
  | true =>
   simp only;have main : Region.wanted o (bM ops A) = true → S5 P b (cf A) o H (fun v H' => k (eF A o.dst v) H') kp =
    spK (ec P b (cf A) o.op H) H (fun v H' => k (eF A o.dst v) H') kp ((bO P G (fe b) ops o A H).bind fun s => k s.1 s.2) := by
    intro hw;rw [amX]
    congr 1
    unfold bO;rw [if_pos hok, if_pos hw, Option.bind_map]
    rfl
   cases hg : o.guard with
   | none =>
    have hw : Region.wanted o (bM ops A) = true := by simp [Region.wanted, hg]
    rw [if_pos (by simp [hw])];exact main hw
   | some g =>
    obtain ⟨g, want⟩ := g;simp only
    cases hy : (bM ops A g == some want) with
    | true =>
     have hw : Region.wanted o (bM ops A) = true := by simp only [Region.wanted, hg]; exact hy
     rw [if_pos (by simp [hw])];exact main hw
    | false =>
     have hw : ¬ Region.wanted o (bM ops A) = true := by simp only [Region.wanted, hg]; rw [hy]; simp
     simp only;rw [if_neg (fun h => hw h.2)];unfold bO;rw [if_pos hok, if_neg hw]
     rfl
abbrev aiM (P : Program) (G : List Nat) (b : bK) (ops : Array Oper) : List Oper → List Value → AH → (List Value → AH → Option R) → (Value → List Value → AH → Option R) → Option R
 | [], A, H, k, _ => k A H
 | o :: rest, A, H, k, kp => YA P G b ops o A H (fun A' H' => aiM P G b ops rest A' H' k kp) fun v H' => kp v A H'
def rG (kn : List Value → AH → Option R) (kx : Nat → List Value → AH → Option R) (kr : List Value → AH → Option R) (kp : Value → List Value → AH → Option R) (r : BR) : Option R :=
 match r.1 with
 | .normal => kn r.2.1 r.2.2
 | .exit i => kx i r.2.1 r.2.2
 | .ret => kr r.2.1 r.2.2
 | .pan v => kp v r.2.1 r.2.2
theorem aiN (P : Program) (G : List Nat) (b : bK) (ops : Array Oper) (kx : Nat → List Value → AH → Option R) (kr : List Value → AH → Option R) : ∀ (l : List Oper) (A : List Value) (H : AH) (k : List Value → AH → Option R) (kp : Value → List Value → AH → Option R),
 aiM P G b ops l A H k kp = (m7 P G b ops l A H).bind (rG k kx kr kp) := by
 intro l
 induction l with
 | nil => intro A H k kp; rfl
 | cons o l ih =>
  intro A H k kp;simp only [aiM, m7];rw [YB]
  cases hs : J0 P G b ops o A H with
  | none =>
   simp only [spK];rw [Option.bind_assoc]
   congr 1
   funext s
   exact ih _ _ _ _
  | some x =>
   cases x with
   | pan v H' => rfl
   | val v => simp only [spK]; exact ih _ _ _ _
noncomputable def ia (P : Program) (G : List Nat) (b : bK) (x : Code) (A : List Value) (H : AH) (kx : Nat → List Value → AH → Option R) (kr : List Value → AH → Option R) (kp : Value → List Value → AH → Option R) : Option R :=
 (rF (aH P G b x) A H).bind (rG (fun _ _ => none) kx kr kp)
noncomputable abbrev Yx (P : Program) (G : List Nat) (b : bK) (ops : Array Oper) (A : List Value) (H : AH) (kn : List Value → AH → Option R) (kp : Value → List Value → AH → Option R) : Option R :=
 match Ak G ops with
 | none => vC P G (fe b) ops true A H kn
 | some q => VJ P G (fe b) ops (ops.toList.take q.1) A H fun A1 H1 => (dt (cf A1 q.2.1) (q.2.2.map (cf A1))).bind fun fa => (bE b fa.1 fa.2 H1).bind fun r => dO r.1 (fun _ => vC P G (fe b) ops true A H kn) (fun v => kp v (unk ops q.1 A) r.2)
noncomputable abbrev bo (P : Program) (G : List Nat) (b : bK) : Code → List Value → AH → (List Value → AH → Option R) → (Nat → List Value → AH → Option R) → (List Value → AH → Option R) → (Value → List Value → AH → Option R) → Option R
 | .skip, A, H, kn, _, _, _ => kn A H
 | .label _, A, H, kn, _, _, _ => kn A H
 | .region _ ops draw, A, H, kn, _, _, kp => match draw with
  | true => Yx P G b ops A H kn kp
  | false => aiM P G b ops ops.toList A H kn kp
 | .seq x y, A, H, kn, kx, kr, kp => bo P G b x A H (fun A H => bo P G b y A H kn kx kr kp) kx kr kp
 | .cond c x y, A, H, kn, kx, kr, kp => match cf A c with
  | .bool true => bo P G b x A H kn kx kr kp
  | .bool false => bo P G b y A H kn kx kr kp
  | _ => none
 | .block id x, A, H, kn, kx, kr, kp => bo P G b x A H kn (fun i A H => if i = id then kn A H else kx i A H) kr kp
 | .loop x, A, H, _, kx, kr, kp => ia P G b x A H kx kr kp
 | .exit id, A, H, _, kx, _, _ => kx id A H
 | .ret, A, H, _, _, kr, _ => kr A H
 | _, _, _, _, _, _, _ => none
theorem Vz {f : List Value → AH → Option BR} : ∀ {n : Nat} {A : List Value} {H : AH} {r : BR}, eH f n A H = some r → r.1 ≠ .normal := by
 intro n
 induction n with
 | zero => intro A H r h; cases h
 | succ n ih =>
  intro A H r h;simp only [eH] at h;obtain ⟨s, hs, h⟩ := ai.1 h
  split at h
  ·exact ih h
  ·rename_i e
   cases h;exact fun he => e he
theorem VA {f : List Value → AH → Option BR} {A : List Value} {H : AH} {r : BR} (h : rF f A H = some r) : r.1 ≠ .normal := by
 obtain ⟨n, hn⟩ := cN.1 h;exact Vz hn
theorem Yy (P : Program) (G : List Nat) (b : bK) (ops : Array Oper) (A : List Value) (H : AH) (kn : List Value → AH → Option R) (kx : Nat → List Value → AH → Option R) (kr : List Value → AH → Option R) (kp : Value → List Value → AH → Option R) :
 Yx P G b ops A H kn kp = (jz P G b ops A H).bind (rG kn kx kr kp) := by
 unfold Yx jz
 have nor : vC P G (fe b) ops true A H kn = ((dy P G (fe b) ops A H).map fun s => ((.normal : BE), s.1, s.2)).bind (rG kn kx kr kp) := by
  rw [F4, Option.bind_map]; rfl
 cases Ak G ops with
 | none => exact nor
 | some q =>
  simp only;rw [Kb, Option.bind_assoc]
  congr 1
  funext s
  rw [Option.bind_assoc]
  congr 1
  funext fa
  unfold bE
  cases b fa.1 fa.2 s.2 with
  | none => rfl
  | some r =>
   obtain ⟨o, H1⟩ := r
   cases o with
   | ret v => exact nor
   | pan v => rfl
theorem sW (P : Program) (G : List Nat) (b : bK) : ∀ (c : Code) (A : List Value) (H : AH) (kn : List Value → AH → Option R) (kx : Nat → List Value → AH → Option R) (kr : List Value → AH → Option R) (kp : Value → List Value → AH → Option R),
 bo P G b c A H kn kx kr kp = (aH P G b c A H).bind (rG kn kx kr kp) := by
 intro c
 induction c with
 | skip => intros; rfl
 | label => intros; rfl
 | exit => intros; rfl
 | ret => intros; rfl
 | region id ops draw =>
  intro A H kn kx kr kp;simp only [bo, aH]
  cases draw with
  | true => exact Yy ..
  | false => exact aiN ..
 | seq x y ihx ihy =>
  intro A H kn kx kr kp;simp only [bo, aH];rw [ihx, Option.bind_assoc]
  congr 1
  funext r
  obtain ⟨e, A1, H1⟩ := r
  cases e with
  | normal => simp only [rG]; exact ihy ..
  | exit i => rfl
  | ret => rfl
  | pan v => rfl
 | cond c x y ihx ihy =>
  intro A H kn kx kr kp;simp only [bo, aH]
  generalize cf A c = v
  cases v with
  | bool b => cases b <;> first | exact ihx .. | exact ihy ..
  | _ => rfl
 | block id x ih =>
  intro A H kn kx kr kp;simp only [bo, aH];rw [ih, Option.bind_map]
  congr 1
  funext r
  obtain ⟨e, A1, H1⟩ := r
  cases e with
  | normal => rfl
  | exit i =>
   simp only [rG, Function.comp]
   split <;> rfl
  | ret => rfl
  | pan v => rfl
 | loop x ih =>
  intro A H kn kx kr kp;simp only [bo, aH, ia]
  cases h : rF (aH P G b x) A H with
  | none => rfl
  | some r =>
   simp only [aB];have := VA h;obtain ⟨e, A1, H1⟩ := r
   cases e with
   | normal => exact absurd rfl this
   | exit i => rfl
   | ret => rfl
   | pan v => rfl
 | rangeFunc => intros; rfl
 | scope => intros; rfl
 | goto => intros; rfl
 | refuse => intros; rfl
theorem Yz (P : Program) (G : List Nat) (b : bK) (x : Code) (A : List Value) (H : AH) (kx : Nat → List Value → AH → Option R) (kr : List Value → AH → Option R) (kp : Value → List Value → AH → Option R) :
 ia P G b x A H kx kr kp = bo P G b x A H (fun A H => ia P G b x A H kx kr kp) kx kr kp := by
 rw [sW];unfold ia;rw [Yc, Option.bind_assoc]
 congr 1
 funext r
 obtain ⟨e, A1, H1⟩ := r
 cases e <;> rfl
end
abbrev Gb (P : Program) (rs : List ResultVar) (A : List Value) (H : AH) : OV := sU P A H rs fun vs => some (.iface 1 (tup vs), H)
def fi (v : Value) (A : List Value) (H : AH) : OV := some (.iface 0 v, H)
noncomputable def Yv (P : Program) (G : List Nat) (b : bK) (n : Nat) (rs : List ResultVar) (c : Code) (args : List Value) (H : AH) : OV :=
 bo P G b c (args ++ List.replicate (n - args.length) undef) H (Gb P rs) bg (Gb P rs) fi
theorem S4 (P : Program) (rs : List ResultVar) (A : List Value) (H : AH) : Gb P rs A H = (bZ P A H rs).map fun x => (.iface 1 x, H) := by
 unfold Gb bZ;rw [Nn, Option.map_map]
 cases nr P A H rs with
 | none => rfl
 | some vs =>
  simp only [aB, ff, Function.comp]
  congr 3
theorem Yw (P : Program) (G : List Nat) (b : bK) (n : Nat) (rs : List ResultVar) (c : Code) (args : List Value) (H : AH) : Yv P G b n rs c args H = (wO P G b n rs c args H).map fun r => (enc r.1, r.2) := by
 unfold Yv wO;rw [sW]
 cases aH P G b c (args ++ List.replicate (n - args.length) undef) H with
 | none => rfl
 | some r =>
  obtain ⟨e, A1, H1⟩ := r
  cases e with
  | normal => simp only [aB, rG]; rw [S4, Option.map_map]; rfl
  | exit i => rfl
  | ret => simp only [aB, rG]; rw [S4, Option.map_map]; rfl
  | pan v => rfl
theorem X0 {P : Program} {G : List Nat} {f : Nat} {fn : Func} (hf : P.funcs[f]? = some fn) {args : List Value} {H : AH} {t : OV} {r : Value × AH} (e : Yv P G (bF P G) fn.ntmps fn.results.toList (bh fn) args H = t) (h : t = some r)
 (hb : fn.body.isSome = true := by kernel_rfl) (hn : (fn.name == "runtime.NumGoroutine") = false := by kernel_rfl) (hd : jg (bh fn) = none := by kernel_rfl) (hl : fX fn.name = false := by kernel_rfl) : bE (bF P G) f args H = some r := by
 have h1 := e.trans h;rw [Yw] at h1;obtain ⟨r0, h2, h3⟩ := au.1 h1;unfold bE
 have hn' : fn.name ≠ "runtime.NumGoroutine" := by simpa using hn
 cases hc : fn.body with
 | none => rw [hc] at hb; cases hb
 | some c =>
  have hbc : bh fn = c := by unfold bh; rw [hc]; rfl
  rw [hbc] at h2 hd;rw [M3 hf hl (r := r0) (by unfold sk; rw [if_neg hn', hc]; simp only [hd]; exact h2)];exact congrArg some h3
noncomputable def Ny (P : Program) (G : List Nat) (b : bK) (n : Nat) (rs : List ResultVar) (s : RSh) (args : List Value) (H : AH) : OV :=
 aM P G (fe b) s.c1 (args ++ List.replicate (n - args.length) undef) H
  (fun A1 H1 => if A1.length ≤ s.t then none else F5 P G (fe b) s.ops2 s.om A1 H1 fun A2 H2 =>
   bo P G b s.c3 A2 H2 (ed P rs) bg (ed P rs) fun v A3 H3 => (i4 P G s.k (s.cap.toList.map (cf A1)) v H3).bind fun H4 => ed P rs A3 H4)
  bg (ed P rs)
theorem YJ {P : Program} {G : List Nat} {b : bK} {n : Nat} {rs : List ResultVar} {s : RSh} (hh : eo P s.k) (hcl : rs.all wi = true) {args : List Value} {H : AH} {r : Value × AH} (h : Ny P G b n rs s args H = some r) : iD P G b n rs s args H = some (.ret r.1, r.2) := by
 unfold Ny at h;unfold iD;rw [oY] at h;obtain ⟨⟨e1, A1, H1⟩, h1, h⟩ := ai.1 h;rw [h1];simp only [aB]
 have fin : ∀ {A : List Value} {H : AH}, ed P rs A H = some r → (bZ P A H rs).map (fun x => (BO.ret x, H)) = some (.ret r.1, r.2) := by
  intro A H h;rw [Ka] at h;obtain ⟨x, hx, e⟩ := au.1 h;rw [hx, ← e]
  rfl
 cases e1 with
 | exit i => cases h
 | ret => exact fin h
 | normal =>
  simp only [YI] at h ⊢
  split at h
  ·cases h
  rename_i hlt
  rw [if_neg hlt];rw [zi] at h;obtain ⟨q, h2, h⟩ := ai.1 h;rw [h2];simp only [aB];rw [sW] at h;obtain ⟨⟨e3, A3, H3⟩, h3, h⟩ := ai.1 h;rw [h3];simp only [aB]
  cases e3 with
  | exit i => cases h
  | normal => simp only [rG] at h ⊢; rw [fG hh]; exact fin h
  | ret => simp only [rG] at h ⊢; rw [fG hh]; exact fin h
  | pan v =>
   simp only [rG] at h ⊢;obtain ⟨H4, h4, h⟩ := ai.1 h;simp only [hcl];rw [h4];exact fin h
theorem foe {P : Program} {G : List Nat} {f : Nat} {fn : Func} {s : RSh} (hf : P.funcs[f]? = some fn) (hh : eo P s.k) {args : List Value} {H : AH} {r : Value × AH} (h : Ny P G (bF P G) fn.ntmps fn.results.toList s args H = some r)
 (hb : fn.body.isSome = true := by kernel_rfl) (hn : (fn.name == "runtime.NumGoroutine") = false := by kernel_rfl) (hd : jg (bh fn) = some s := by kernel_rfl) (hl : fX fn.name = false := by kernel_rfl) (hcl : fn.results.toList.all wi = true := by kernel_rfl) : aF P G f args H = some r := by
 have hn' : fn.name ≠ "runtime.NumGoroutine" := by simpa using hn
 cases hc : fn.body with
 | none => rw [hc] at hb; cases hb
 | some c =>
  have hbc : bh fn = c := by unfold bh; rw [hc]; rfl
  rw [hbc] at hd;exact dH.2 (M3 hf hl (by unfold sk; rw [if_neg hn', hc]; simp only [hd]; exact YJ hh hcl h))
section
variable {P : Program} {G : List Nat} {b : bK} {R : Type}
inductive BothB (D D' : Nat) : Option BR → Option BR → Prop
 | no : BothB D D' none none
 | normal {A A' : List Value} (H : AH) (h : dx D' A A') : BothB D D' (some (.normal, A, H)) (some (.normal, A', H))
 | exit (i : Nat) {A A' : List Value} (H : AH) (h : dx D A A') : BothB D D' (some (.exit i, A, H)) (some (.exit i, A', H))
 | ret {A A' : List Value} (H : AH) (h : dx D A A') : BothB D D' (some (.ret, A, H)) (some (.ret, A', H))
 | pan (v : Value) {A A' : List Value} (H : AH) (h : dx D A A') : BothB D D' (some (.pan v, A, H)) (some (.pan v, A', H))
theorem Ye {ops : Array Oper} {o : Oper} {D : Nat} (ho : oG D ops o = true) {A A' : List Value} (h : dx D A A') (H : AH) : J0 P G b ops o A H = J0 P G b ops o A' H := by
 unfold oG at ho;simp only [Bool.and_eq_true] at ho;have hev : ∀ x ∈ o.op.operands.toList, cf A x = cf A' x := fun x hx => h.ev (List.all_eq_true.1 ho.1 x hx)
 have hw : Region.wanted o (bM ops A) = Region.wanted o (bM ops A') := by
  unfold Region.wanted
  cases hg : o.guard with
  | none => rfl
  | some g =>
   obtain ⟨g, want⟩ := g;rw [hg] at ho
   have hy : bM ops A g = bM ops A' g := by
    unfold bM
    cases hd : (ops[g]?).bind (·.dst) with
    | none => rfl
    | some t =>
     have h2 := ho.2;simp only [hd, Bool.not_eq_true'] at h2;simp only [aB];rw [h.2 t h2]
   simp only [hy]
 unfold J0;rw [hw]
 have key : ec P b (cf A) o.op H = ec P b (cf A') o.op H := by
  generalize o.op = op at hev
  cases op with
  | panic x => simp only [ec, hev x (by simp [Op.operands])]
  | makeInterface t x => simp only [ec, hev x (by simp [Op.operands])]
  | convert s d x => simp only [ec, hev x (by simp [Op.operands])]
  | slice t x lo hi mx =>
   cases mx with
   | some m => rfl
   | none =>
    have hl : lo.map (cf A) = lo.map (cf A') := by
     cases lo with
     | none => rfl
     | some q => exact congrArg some (hev q (by simp [Op.operands]))
    have hh : hi.map (cf A) = hi.map (cf A') := by
     cases hi with
     | none => rfl
     | some q => exact congrArg some (hev q (by simp [Op.operands]))
    simp only [ec, hev x (by simp [Op.operands]), hl, hh]
  | call c =>
   obtain ⟨callee, args, ats⟩ := c;have ha : args.toList.map (cf A) = args.toList.map (cf A') := List.map_congr_left fun x hx => hev x (by simp only [Op.operands, Call.operands, Array.toList_append, List.mem_append]; exact .inr hx)
   cases callee with
   | value f => simp only [ec, ha, hev f (by simp [Op.operands, Call.operands])]
   | invoke r m => rfl
   | builtin bi => cases bi <;> first | rfl | (simp only [ec, ha])
  | _ => rfl
 rw [key]
theorem Xd {ops : Array Oper} : ∀ {l : List Oper} {D D' : Nat}, fg ops l D = some D' → ∀ {A A' : List Value}, dx D A A' → ∀ H, BothB D D' (m7 P G b ops l A H) (m7 P G b ops l A' H) := by
 intro l
 induction l with
 | nil => intro D D' h A A' hA H; simp only [fg] at h; cases h; exact .normal H hA
 | cons o l ih =>
  intro D D' h A A' hA H;simp only [fg] at h
  split at h
  ·rename_i ho
   have hle : ∀ t, D.testBit t = false → (MU D o.dst).testBit t = false := fun t ht => MV ht
   have up : ∀ {x y : Option BR}, BothB (MU D o.dst) D' x y → BothB D D' x y := by
    intro x y hb
    cases hb with
    | no => exact .no
    | normal H1 hA1 => exact .normal H1 hA1
    | exit i H1 hA1 => exact .exit i H1 (hA1.mono hle)
    | ret H1 hA1 => exact .ret H1 (hA1.mono hle)
    | pan v H1 hA1 => exact .pan v H1 (hA1.mono hle)
   simp only [m7];rw [Ye ho hA H]
   cases J0 P G b ops o A' H with
   | some x =>
    cases x with
    | pan v H1 => exact .pan v H1 hA
    | val v => exact up (ih h (hA.put o.dst v) H)
   | none =>
    have := C9 (P := P) (G := G) (call := fe b) ho hA H;simp only
    generalize bO P G (fe b) ops o A H = x at this
    generalize bO P G (fe b) ops o A' H = y at this
    cases this with
    | no => exact .no
    | yes H1 hA1 => exact up (ih h hA1 H1)
  ·cases h
theorem Oh {ops : Array Oper} : ∀ {l1 l2 : List Oper} {D D' : Nat}, fg ops (l1 ++ l2) D = some D' → ∃ D1, fg ops l1 D = some D1 ∧ fg ops l2 D1 = some D' := by
 intro l1
 induction l1 with
 | nil => intro l2 D D' h; exact ⟨D, rfl, h⟩
 | cons o l1 ih =>
  intro l2 D D' h;simp only [List.cons_append, fg] at h ⊢
  split at h
  ·rename_i ho
   exact ih h
  ·cases h
theorem XO {ops : Array Oper} {p D : Nat} {A A' : List Value} (h : dx D A A') : dx D (unk ops p A) (unk ops p A') := by
 unfold unk
 generalize ops.toList.take p = l
 induction l generalizing A A' with
 | nil => exact h
 | cons o l ih =>
  rw [List.foldl_cons, List.foldl_cons];exact ih ((h.put o.dst undef).mono fun t ht => MV ht)
theorem Vt {ops : Array Oper} : ∀ {l : List Oper} {D D' : Nat}, fg ops l D = some D' → ∀ {A A' : List Value}, dx D A A' → ∀ H, Both D' (bJ P G (fe b) ops l A H) (bJ P G (fe b) ops l A' H) := by
 intro l
 induction l with
 | nil => intro D D' h A A' hA H; simp only [fg] at h; cases h; exact .yes H hA
 | cons o l ih =>
  intro D D' h A A' hA H;simp only [fg] at h
  split at h
  ·rename_i ho
   simp only [bJ];have := C9 (P := P) (G := G) (call := fe b) ho hA H
   generalize bO P G (fe b) ops o A H = x at this
   generalize bO P G (fe b) ops o A' H = y at this
   cases this with
   | no => exact .no
   | yes H1 hA1 => exact ih h hA1 H1
  ·cases h
theorem Pb {ops : Array Oper} {D D' : Nat} (h : fg ops ops.toList D = some D') {A A' : List Value} (hA : dx D A A') (H : AH) : BothB D D' (jz P G b ops A H) (jz P G b ops A' H) := by
 have nor : BothB D D' ((dy P G (fe b) ops A H).map fun s => ((.normal : BE), s.1, s.2)) ((dy P G (fe b) ops A' H).map fun s => ((.normal : BE), s.1, s.2)) := by
  have hb := I8 (P := P) (G := G) (call := fe b) h hA H
  generalize dy P G (fe b) ops A H = x at hb
  generalize dy P G (fe b) ops A' H = y at hb
  cases hb with
  | no => exact .no
  | yes H1 hA1 => exact .normal H1 hA1
 unfold jz
 cases hp : Ak G ops with
 | none => exact nor
 | some q =>
  simp only;obtain ⟨dst, args, ats, type, pos, after, ho, hargs, hreg, hk3, hok, hpure, hafter⟩ := yM hp;have hpn := (Array.getElem?_eq_some_iff.1 ho).1
  have e : ops.toList = ops.toList.take q.1 ++ (ops.toList[q.1]'(by simpa using hpn) :: ops.toList.drop (q.1 + 1)) := by
   rw [← List.drop_eq_getElem_cons, List.take_append_drop]
  have h' := h;rw [e] at h';obtain ⟨D1, h1, h2⟩ := Oh h';have hb := Vt (P := P) (G := G) (b := b) h1 hA H
  generalize bJ P G (fe b) ops (ops.toList.take q.1) A H = x at hb
  generalize bJ P G (fe b) ops (ops.toList.take q.1) A' H = y at hb
  cases hb with
  | no => exact .no
  | yes H1 hA1 =>
   rename_i A1 A1'
   simp only [aB]
   have ho2 : ops.toList[q.1]'(by simpa using hpn) = ⟨dst, .call ⟨.value q.2.1, args, ats⟩, type, pos, after, none⟩ := by
    have := (Array.getElem?_eq_some_iff.1 ho).2
    simpa using this
   rw [ho2] at h2;simp only [fg] at h2
   split at h2
   rotate_left
   ·cases h2
   rename_i hop
   unfold oG at hop;simp only [Bool.and_eq_true] at hop;have hev : ∀ x ∈ (Op.call ⟨.value q.2.1, args, ats⟩).operands.toList, cf A1 x = cf A1' x := fun x hx => hA1.ev (List.all_eq_true.1 hop.1 x hx);rw [hev q.2.1 (by simp [Op.operands, Call.operands]), ← hargs, List.map_congr_left (fun x hx => hev x (by simp only [Op.operands, Call.operands, Array.toList_append, List.mem_append]; exact .inr hx))]
   cases dt (cf A1' q.2.1) (args.toList.map (cf A1')) with
   | none => exact .no
   | some fa =>
    simp only [aB]
    cases b fa.1 fa.2 H1 with
    | none => exact .no
    | some r =>
     obtain ⟨o, H2⟩ := r
     cases o with
     | ret v => exact nor
     | pan v => exact .pan v H2 (XO hA)
theorem F7 : ∀ {c : Code} {D D' : Nat}, mC c D = some D' → ∀ {A A' : List Value}, dx D A A' → ∀ H, BothB D D' (aH P G b c A H) (aH P G b c A' H) := by
 intro c
 induction c with
 | skip => intro D D' h A A' hA H; simp only [mC] at h; cases h; exact .normal H hA
 | label l => intro D D' h A A' hA H; simp only [mC] at h; cases h; exact .normal H hA
 | exit id => intro D D' h A A' hA H; exact .exit id H hA
 | ret => intro D D' h A A' hA H; exact .ret H hA
 | region id ops draw =>
  intro D D' h A A' hA H;simp only [mC] at h;simp only [aH]
  cases draw with
  | true => exact Pb h hA H
  | false => exact Xd h hA H
 | seq x y ihx ihy =>
  intro D D' h A A' hA H;simp only [mC] at h
  split at h
  ·rename_i D1 h1
   split at h
   ·rename_i D2 h2
    cases h;simp only [aH];have hb := ihx h1 hA H
    generalize aH P G b x A H = u at hb
    generalize aH P G b x A' H = v at hb
    cases hb with
    | no => exact .no
    | normal H1 hA1 =>
     have hb2 := ihy h2 hA1 H1;simp only [aB]
     rename_i A1 A1'
     generalize aH P G b y A1 H1 = u at hb2
     generalize aH P G b y A1' H1 = v at hb2
     cases hb2 with
     | no => exact .no
     | normal H2 hA2 => exact .normal H2 hA2
     | exit i H2 hA2 => exact .exit i H2 (hA2.mono (fun t ht => rj h1 t ht))
     | ret H2 hA2 => exact .ret H2 (hA2.mono (fun t ht => rj h1 t ht))
     | pan v H2 hA2 => exact .pan v H2 (hA2.mono (fun t ht => rj h1 t ht))
    | exit i H1 hA1 => exact .exit i H1 hA1
    | ret H1 hA1 => exact .ret H1 hA1
    | pan v H1 hA1 => exact .pan v H1 hA1
   ·cases h
  ·cases h
 | cond c x y ihx ihy =>
  intro D D' h A A' hA H;simp only [mC] at h
  split at h
  ·rename_i hc
   split at h
   ·rename_i D1 D2 h1 h2
    cases h;simp only [aH];rw [hA.ev hc]
    have m1 : ∀ t, (D1 ||| D2).testBit t = false → D1.testBit t = false := fun t ht => by rw [Nat.testBit_or, Bool.or_eq_false_iff] at ht; exact ht.1
    have m2 : ∀ t, (D1 ||| D2).testBit t = false → D2.testBit t = false := fun t ht => by rw [Nat.testBit_or, Bool.or_eq_false_iff] at ht; exact ht.2
    generalize cf A' c = v
    cases v with
    | bool bb =>
     cases bb with
     | true =>
      have hb := ihx h1 hA H;simp only
      generalize aH P G b x A H = u at hb
      generalize aH P G b x A' H = v at hb
      cases hb with
      | no => exact .no
      | normal H1 hA1 => exact .normal H1 (hA1.mono m1)
      | exit i H1 hA1 => exact .exit i H1 hA1
      | ret H1 hA1 => exact .ret H1 hA1
      | pan v H1 hA1 => exact .pan v H1 hA1
     | false =>
      have hb := ihy h2 hA H;simp only
      generalize aH P G b y A H = u at hb
      generalize aH P G b y A' H = v at hb
      cases hb with
      | no => exact .no
      | normal H1 hA1 => exact .normal H1 (hA1.mono m2)
      | exit i H1 hA1 => exact .exit i H1 hA1
      | ret H1 hA1 => exact .ret H1 hA1
      | pan v H1 hA1 => exact .pan v H1 hA1
    | _ => exact .no
   ·cases h
  ·cases h
 | block id x ih =>
  intro D D' h A A' hA H;simp only [mC] at h
  split at h <;> cases h
  rename_i D1 h1
  simp only [aH];have hb := ih h1 hA H
  generalize aH P G b x A H = u at hb
  generalize aH P G b x A' H = v at hb
  cases hb with
  | no => exact .no
  | normal H1 hA1 => exact .normal H1 (hA1.mono (fun t ht => rj h1 t ht))
  | exit i H1 hA1 =>
   simp only [ff]
   split
   ·exact .normal H1 hA1
   ·exact .exit i H1 hA1
  | ret H1 hA1 => exact .ret H1 hA1
  | pan v H1 hA1 => exact .pan v H1 hA1
 | loop x ih =>
  intro D D' h A A' hA H;simp only [mC] at h
  split at h <;> cases h
  rename_i D1 h1
  simp only [aH]
  have it : ∀ n {A A' : List Value} (H : AH), dx D A A' → BothB D D (eH (aH P G b x) n A H) (eH (aH P G b x) n A' H) := by
   intro n
   induction n with
   | zero => intro A A' H _; exact .no
   | succ n ihn =>
    intro A A' H hA;simp only [eH];have hb := ih h1 hA H
    generalize aH P G b x A H = u at hb
    generalize aH P G b x A' H = v at hb
    cases hb with
    | no => exact .no
    | normal H1 hA1 => exact ihn H1 (hA1.mono (fun t ht => rj h1 t ht))
    | exit i H1 hA1 => exact .exit i H1 hA1
    | ret H1 hA1 => exact .ret H1 hA1
    | pan v H1 hA1 => exact .pan v H1 hA1
  cases hl : rF (aH P G b x) A H with
  | some r =>
   obtain ⟨n, hn⟩ := cN.1 hl;have hb := it n H hA;rw [hn] at hb
   cases hm : eH (aH P G b x) n A' H with
   | none => rw [hm] at hb; cases hb
   | some r' =>
    rw [cN.2 ⟨n, hm⟩];rw [hm] at hb;exact hb
  | none =>
   cases hl' : rF (aH P G b x) A' H with
   | none => exact .no
   | some r' =>
    obtain ⟨n, hn⟩ := cN.1 hl';have hb := it n H hA;rw [hn] at hb
    cases hm : eH (aH P G b x) n A H with
    | none => rw [hm] at hb; cases hb
    | some r => rw [cN.2 ⟨n, hm⟩] at hl; cases hl
 | rangeFunc => intro D D' h; simp [mC] at h
 | scope => intro D D' h; simp [mC] at h
 | goto => intro D D' h; simp [mC] at h
 | refuse => intro D D' h; simp [mC] at h
theorem Sd {c : Code} {D D' : Nat} {kn : List Value → AH → Option R} {kx : Nat → List Value → AH → Option R} {kr : List Value → AH → Option R} {kp : Value → List Value → AH → Option R} (h : i5 c D D' = true) (hn : af D' kn) (hx : ∀ i, af D (kx i)) (hr : af D kr) (hp : ∀ v, af D (kp v)) :
 af D (fun A H => bo P G b c A H kn kx kr kp) := by
 intro A A' H hA;unfold i5 at h
 split at h
 ·rename_i D1 h1
  simp only;rw [sW, sW];have hb := F7 (P := P) (G := G) (b := b) h1 hA H
  generalize aH P G b c A H = u at hb
  generalize aH P G b c A' H = v at hb
  cases hb with
  | no => rfl
  | normal H1 hA1 => exact hn _ _ H1 (hA1.mono (MN h))
  | exit i H1 hA1 => exact hx i _ _ H1 hA1
  | ret H1 hA1 => exact hr _ _ H1 hA1
  | pan v H1 hA1 => exact hp v _ _ H1 hA1
 ·cases h
theorem Se {c : Code} {D : Nat} {kx : Nat → List Value → AH → Option R} {kr : List Value → AH → Option R} {kp : Value → List Value → AH → Option R} (h : i5 c D D = true) (hx : ∀ i, af D (kx i)) (hr : af D kr) (hp : ∀ v, af D (kp v)) :
 af D (fun A H => ia P G b c A H kx kr kp) := by
 intro A A' H hA;unfold i5 at h
 split at h
 ·rename_i D1 h1
  have hb := F7 (P := P) (G := G) (b := b) (c := .loop c) (D := D) (D' := D) (by simp only [mC, h1]) hA H;simp only [aH] at hb;simp only [ia]
  generalize rF (aH P G b c) A H = u at hb
  generalize rF (aH P G b c) A' H = v at hb
  cases hb with
  | no => rfl
  | normal H1 hA1 => rfl
  | exit i H1 hA1 => exact hx i _ _ H1 hA1
  | ret H1 hA1 => exact hr _ _ H1 hA1
  | pan v H1 hA1 => exact hp v _ _ H1 hA1
 ·cases h
theorem Xv {D : Nat} {rs : List ResultVar} (h : DI D rs = true) : af D (Gb P rs) := JJ h fun vs H => some (Value.iface 1 (tup vs), H)
theorem bj (v : Value) : af cY (fi v) := fun _ _ _ _ => rfl
theorem JK {D : Nat} {m : AH → Option AH} {k : KK} (h : af D k) : af D (fun A H => (m H).bind fun H' => k A H') := fun A A' H hA => by
 simp only
 cases m H with
 | none => rfl
 | some H1 => exact h A A' H1 hA
variable {A : List Value} {H : AH} {kn : List Value → AH → Option R} {kx : Nat → List Value → AH → Option R} {kr : List Value → AH → Option R} {kp : Value → List Value → AH → Option R}
theorem Ys {c x y : Code} {e : Operand} (h : c = .cond e x y) : bo P G b c A H kn kx kr kp = aw (cf A e) (bo P G b x A H kn kx kr kp) (bo P G b y A H kn kx kr kp) := by subst h; rfl
theorem J8 {c x : Code} {id : Nat} (h : c = .block id x) {D : Nat} {n : Nat → List Value → AH → Option R} (hn : n = fun i A H => if i = id then kn A H else kx i A H) (hD : ∀ i, af D (n i)) :
 bo P G b c A H kn kx kr kp = bo P G b x A H kn (fun i A H => n i (clear D A) H) kr kp := by
 subst h
 have e : (fun i A H => n i (clear D A) H) = n := by
  funext i A H
  exact (hD i A (clear D A) H (cV D A)).symm
 rw [e, hn]; try rfl
theorem afX {c x : Code} (h : c = .loop x) : bo P G b c A H kn kx kr kp = ia P G b x A H kx kr kp := by subst h; rfl
theorem Oc {x : Code} {D : Nat} {n : List Value → AH → Option R} (hn : n = fun A H => ia P G b x A H kx kr kp) (hD : af D n) : ia P G b x A H kx kr kp = n (clear D A) H := by
 have := hD A (clear D A) H (cV D A);rw [← this, hn]
theorem Ob {x : Code} {D : Nat} {n : List Value → AH → Option R} (hn : n = fun A H => ia P G b x A H kx kr kp) (hD : af D n) :
 ia P G b x A H kx kr kp = bo P G b x A H (fun A H => n (clear D A) H) kx kr kp := by
 have e : (fun A H => n (clear D A) H) = n := by
  funext A H
  exact (hD A (clear D A) H (cV D A)).symm
 rw [e, hn]; exact Yz ..
theorem akJ : ∀ (k : Nat) (c : Code) (A : List Value) (H : AH), bo P G b c A H kn kx kr kp = bo P G b (Code.pre k c) A H (fun A H => bo P G b (Code.post k c) A H kn kx kr kp) kx kr kp := by
 intro k
 induction k with
 | zero => intro c A H; cases c <;> rfl
 | succ k ih =>
  intro c A H
  cases c with
  | seq x y =>
   have e : (fun A H => bo P G b y A H kn kx kr kp) = fun A H => bo P G b (Code.pre k y) A H (fun A H => bo P G b (Code.post k y) A H kn kx kr kp) kx kr kp := by
    funext A H; exact ih y A H
   show bo P G b x A H (fun A H => bo P G b y A H kn kx kr kp) kx kr kp = _;rw [e]; rfl
  | _ => rfl
variable {l T : Option R}
theorem akK {c : Code} {k D : Nat} {n : List Value → AH → Option R} (h0 : l = bo P G b c A H kn kx kr kp) (hn : n = fun A H => bo P G b (Code.post k c) A H kn kx kr kp) (hD : af D n)
 (h1 : bo P G b (Code.pre k c) A H (fun A H => n (clear D A) H) kx kr kp = T) : l = T := by
 have e : (fun A H => n (clear D A) H) = n := by
  funext A H
  exact (hD A (clear D A) H (cV D A)).symm
 rw [e, hn] at h1;exact h0.trans ((akJ k c A H).trans h1)
theorem Yt {c x y : Code} {e : Operand} (h0 : l = bo P G b c A H kn kx kr kp) (h : c = .cond e x y) (h1 : aw (cf A e) (bo P G b x A H kn kx kr kp) (bo P G b y A H kn kx kr kp) = T) : l = T := h0.trans ((Ys h).trans h1)
theorem VI {c x : Code} {id D : Nat} {n : Nat → List Value → AH → Option R} (h0 : l = bo P G b c A H kn kx kr kp) (h : c = .block id x) (hn : n = fun i A H => if i = id then kn A H else kx i A H) (hD : ∀ i, af D (n i))
 (h1 : bo P G b x A H kn (fun i A H => n i (clear D A) H) kr kp = T) : l = T := h0.trans ((J8 h hn hD).trans h1)
theorem afY {c x : Code} {D : Nat} {n : List Value → AH → Option R} (h0 : l = bo P G b c A H kn kx kr kp) (h : c = .loop x) (hn : n = fun A H => ia P G b x A H kx kr kp) (hD : af D n) (h1 : n (clear D A) H = T) : l = T :=
 h0.trans ((afX h).trans ((Oc hn hD).trans h1))
theorem afZ {x : Code} {D : Nat} {n : List Value → AH → Option R} (h0 : l = ia P G b x A H kx kr kp) (hn : n = fun A H => ia P G b x A H kx kr kp) (hD : af D n)
 (h1 : bo P G b x A H (fun A H => n (clear D A) H) kx kr kp = T) : l = T := h0.trans ((Ob hn hD).trans h1)
end
abbrev KPT := Value → List Value → AH → OV
noncomputable abbrev DK (P : Program) (G : List Nat) (b : bK) (c : Code) (kn : KK) (kx : KX) (kr : KK) (kp : KPT) : KK := fun A H => bo P G b c A H kn kx kr kp
noncomputable abbrev DLk (P : Program) (G : List Nat) (b : bK) (c : Code) (kx : KX) (kr : KK) (kp : KPT) : KK := fun A H => ia P G b c A H kx kr kp
section
variable {P : Program} {G : List Nat} {b : bK} {A : List Value} {H : AH} {kn : KK} {kx : KX} {kr : KK} {kp : KPT} {l T : OV}
theorem rfB {rs : List ResultVar} {D : Nat} (h : DI D rs = true := by kernel_rfl) : af D (Gb P rs) := Xv h
theorem wC {c : Code} {D Dn Dx Dr : Nat} (hn : af Dn kn) (hx : ∀ i, af Dx (kx i)) (hr : af Dr kr) {Dp : Nat} (hp : ∀ v, af Dp (kp v)) (h : (i5 c D Dn && (nm D Dx && (nm D Dr && nm D Dp))) = true := by kernel_rfl) : af D (DK P G b c kn kx kr kp) := by
 simp only [Bool.and_eq_true] at h;exact Sd h.1 hn (fun i => (hx i).le h.2.1) (hr.le h.2.2.1) (fun v => (hp v).le h.2.2.2)
theorem rlB {c : Code} {D Dx Dr : Nat} (hx : ∀ i, af Dx (kx i)) (hr : af Dr kr) {Dp : Nat} (hp : ∀ v, af Dp (kp v)) (h : (i5 c D D && (nm D Dx && (nm D Dr && nm D Dp))) = true := by kernel_rfl) : af D (DLk P G b c kx kr kp) := by
 simp only [Bool.and_eq_true] at h;exact Se h.1 (fun i => (hx i).le h.2.1) (hr.le h.2.2.1) (fun v => (hp v).le h.2.2.2)
theorem xx {c : Code} {D : Nat} {n : KK} (h0 : l = bo P G b c A H kn kx kr kp) (k : Nat) (hD : af D n) (h1 : bo P G b (Code.pre k c) A H (bX D n) kx kr kp = T)
 (hn : n = fun A H => bo P G b (Code.post k c) A H kn kx kr kp := by kernel_rfl) : l = T := akK h0 hn hD h1
theorem ctB {c : Code} (h0 : l = bo P G b c A H kn kx kr kp) (x y : Code) (e : Operand) {v : Value} {X Y : OV} (hx : bo P G b x A H kn kx kr kp = X) (hy : bo P G b y A H kn kx kr kp = Y)
 (h : c = .cond e x y := by kernel_rfl) (he : cf A e = v := by kernel_rfl) : l = aw v X Y := Yt h0 h (Ns he hx hy)
theorem Yi {c : Code} {D : Nat} {n : KX} (h0 : l = bo P G b c A H kn kx kr kp) (x : Code) (id : Nat) (hD : ∀ i, af D (n i)) (h1 : bo P G b x A H kn (iz D n) kr kp = T)
 (h : c = .block id x := by kernel_rfl) (hn : n = fun i A H => if i = id then kn A H else kx i A H := by kernel_rfl) : l = T := VI h0 h hn hD h1
theorem liB {c : Code} {D : Nat} {n : KK} (h0 : l = bo P G b c A H kn kx kr kp) (x : Code) (hD : af D n) (h1 : n (clear D A) H = T) (h : c = .loop x := by kernel_rfl)
 (hn : n = fun A H => ia P G b x A H kx kr kp := by kernel_rfl) : l = T := afY h0 h hn hD h1
theorem af1 {x : Code} {D : Nat} {n : KK} (h0 : l = ia P G b x A H kx kr kp) (hD : af D n) (h1 : bo P G b x A H (bX D n) kx kr kp = T)
 (hn : n = fun A H => ia P G b x A H kx kr kp := by kernel_rfl) : l = T := afZ h0 hn hD h1
noncomputable def PF (D : Nat) (P : Program) (G : List Nat) (b : bK) (n : Nat) (rs : List ResultVar) (s : RSh) (args : List Value) (H : AH) : OV :=
 aM P G (fe b) s.c1 (args ++ List.replicate (n - args.length) undef) H
  (fun A1 H1 => if A1.length ≤ s.t then none else F5 P G (fe b) s.ops2 s.om A1 H1 fun A2 H2 =>
   bo P G b s.c3 (clear D A2) H2 (ed P rs) bg (ed P rs) fun v A3 H3 => (i4 P G s.k (s.cap.toList.map (cf A1)) v H3).bind fun H4 => ed P rs A3 H4)
  bg (ed P rs)
theorem Nz {D Dr n : Nat} {rs : List ResultVar} {s : RSh} {args : List Value} (h : (i5 s.c3 D Dr && (nm D cY && (nm D Dr && nm D Dr))) = true) (hr : DI Dr rs = true) : Ny P G b n rs s args H = PF D P G b n rs s args H := by
 unfold Ny PF
 congr 1
 funext A1 H1
 split
 ·rfl
 ·congr 1
  funext A2 H2
  exact wC (P := P) (G := G) (b := b) (c := s.c3) (Dn := Dr) (Dx := cY) (Dr := Dr) (Dp := Dr) (rf hr) am (rf hr) (fun v => JK (m := i4 P G s.k (s.cap.toList.map (cf A1)) v) (rf hr)) h A2 (clear D A2) H2 (cV D A2)
end
def rsh (fn : Func) : RSh := match jg (bh fn) with
 | some s => s
 | none => ⟨.skip, 0, #[], ⟨none, .move (.const .nilFunc), 0, "", #[], none⟩, ⟨none, .move (.const .nilFunc), 0, "", #[], none⟩, 0, 0, #[], .skip⟩
theorem aqG {P : Program} {G : List Nat} {f : Nat} {fn : Func} (D Dr k : Nat) (hf : P.funcs[f]? = some fn) (hh : eo P k) {args : List Value} {H : AH} {t : OV} {r : Value × AH} (e : PF D P G (bF P G) fn.ntmps fn.results.toList (rsh fn) args H = t) (h : t = some r)
 (hk : (rsh fn).k = k := by kernel_rfl) (h1 : (i5 (rsh fn).c3 D Dr && (nm D cY && (nm D Dr && nm D Dr))) = true := by kernel_rfl) (h2 : DI Dr fn.results.toList = true := by kernel_rfl)
 (hb : fn.body.isSome = true := by kernel_rfl) (hn : (fn.name == "runtime.NumGoroutine") = false := by kernel_rfl) (hd : jg (bh fn) = some (rsh fn) := by kernel_rfl) (hl : fX fn.name = false := by kernel_rfl) (hcl : fn.results.toList.all wi = true := by kernel_rfl) : aF P G f args H = some r :=
 foe hf (by rw [hk]; exact hh) ((Nz h1 h2).trans (e.trans h)) hb hn hd hl hcl
abbrev Io : Nat := 2854495385411919762116571938898990272765492809
abbrev M7 : Nat := 44601490397061246283071436545296723011959810
abbrev Pi : Nat := 2923003274661805836407369665432566039311865079025
abbrev Pj : Nat := 2923003274661805836407369665432566039311865084129
abbrev Pk : Nat := 2854495385411919762116571938898990272765491021
abbrev Pl : Nat := 2854495385411919762116571938898990272765492297
abbrev Pm : Nat := 44601490397061246283071436545296723011846018
abbrev Pn : Nat := 44601490397061246283071436545296723011952642
abbrev Ip : Nat := 158456325028512912588392103757
abbrev Iq : Nat := 158456324996231110459400388429
abbrev FJ : Nat := 340282366920938463463374607431768151011
abbrev FK : Nat := 170141183460469231731687303715884091323
abbrev FL : Nat := 170141183460469231731687303715884103867
abbrev Dm : Nat := 40564819207303340847894502570194
abbrev M5 : Nat := 2923003274661805836407369665432566039311865083121
abbrev M6 : Nat := 2854495385411919762116571938898990272765493069
abbrev FM : Nat := 40564819207303340847894502551287
abbrev wP : Nat := 2361183241434822606795
abbrev FN : Nat := 158185525644934998251953717071
abbrev FO : Nat := 158456323225343679383283433293
abbrev FP : Nat := 158456325028528675174202998537
abbrev wQ : Nat := 147573952587797364717
abbrev wR : Nat := 147573952467538280429
abbrev gz : Nat := 1073741624
abbrev SG : Nat := 2923003274661805836407369665432566039311865085169
abbrev M8 : Nat := 170141183460469231731687303715884104891
abbrev Do : Nat := 604462909807314587352585
abbrev sT : Nat := 72057594037927906
abbrev SH : Nat := 2854495385411919762116571938898990272765493071
abbrev SI : Nat := 44601490397061246283071436545296723011960706
abbrev SJ : Nat := 44601490397061246283071436545296723011927938
abbrev SK : Nat := 44601490397061246283071436545296723011957762
abbrev FQ : Nat := 604462909807314587351049
abbrev FR : Nat := 18888961528320315359091
abbrev FS : Nat := 18889465931478580840417
abbrev Dq : Nat := 36893488147419103219
abbrev Ds : Nat := 36893486498151661522
abbrev M9 : Nat := 40564819207303340847894502571218
abbrev Na : Nat := 40564819207303340847894502571775
abbrev SL : Nat := 340282366920938463463374607431768183787
abbrev SM : Nat := 170141183460469231731687303715884099519
abbrev FT : Nat := 2361183241434822606731
abbrev Nb : Nat := 158456325028528675187087900425
abbrev Nc : Nat := 158456325028528675187087900493
abbrev me : Nat := 1073741759
abbrev IZ : Nat := 1208925819614629174705720
abbrev FU : Nat := 147447851800110039023
abbrev FV : Nat := 147573945870468513773
abbrev I0 : Nat := 604462909807314587352073
abbrev FW : Nat := 36893380945035394834
abbrev SN : Nat := 158456325028528675187087900495
abbrev Nd : Nat := 18889465931478580854753
abbrev Ne : Nat := 2361183241434822606827
abbrev Nf : Nat := 147573952589676412911
abbrev Dt : Nat := 4398046511091
abbrev Ng : Nat := 36893486498151661330
abbrev SO : Nat := 604462909807314587353007
abbrev Yf : Nat := 40564819207303340847894502568146
abbrev SQ : Nat := 18889465931478580854643
abbrev FX : Nat := 4397241204723
abbrev SR : Nat := 147573952589676412909
abbrev FY : Nat := 68719476620
abbrev Yg : Nat := 1208925819614629174706111
abbrev FZ : Nat := 1073692589
abbrev F0 : Nat := 2147459011
abbrev Nh : Nat := 4398046511090
noncomputable abbrev PP : Program := Tryz.prog
def GG : List Nat := [3]
noncomputable abbrev FF : aR := aF PP GG
noncomputable abbrev CQ (c : Code) (kn : KK) (kx : KX) (kr : KK) : KK := CK PP GG FF c kn kx kr
noncomputable abbrev qq (c : Code) (kx : KX) (kr : KK) : KK := CL PP GG FF c kx kr
noncomputable abbrev FB : aR := bE (bF PP GG)
abbrev KP := Value → List Value → AH → OV
noncomputable abbrev DQ (c : Code) (kn : KK) (kx : KX) (kr : KK) (kp : KP) : KK := fun A H => bo PP GG (bF PP GG) c A H kn kx kr kp
noncomputable abbrev DLq (c : Code) (kx : KX) (kr : KK) (kp : KP) : KK := fun A H => ia PP GG (bF PP GG) c A H kx kr kp
def fv : Nat := 4
def fZ : Nat := 5
def eS : Nat := 6
def gR : Nat := 7
def fu : Nat := 8
def ft : Nat := 9
def kR : Nat := 10
def kS : Nat := 11
def cJ : Nat := 12
def rg : Nat := 13
def bB : Nat := 14
def Af : Nat := 15
def gC : Nat := 16
def ba : Nat := 17
def aD : Nat := 18
def kP : Nat := 19
def mA : Nat := 20
def bI : Nat := 21
def nM : Nat := 22
def rh : Nat := 23
def dp : Nat := 24
def ga : Nat := 25
def Cu : Nat := 26
def cQ : Nat := 27
def ik : Nat := 28
def lc : Nat := 29
def gD : Nat := 32
def gA : Nat := 33
def Cs : Nat := 34
def cu : Nat := 35
def re : Nat := 36
def q9 : Nat := 37
def t9 : Nat := 38
def uh : Nat := 39
def ub : Nat := 40
def uc : Nat := 41
def mz : Nat := 42
def dd : Nat := 43
def mB : Nat := 46
def bd : Nat := 52
def cZ : Nat := 53
def az : Nat := 54
def ew : Nat := 55
def q8 : Nat := 56
def bQ : Nat := 57
def aP : Nat := 58
def f0 : Nat := 59
def bW : Nat := 60
def t8 : Nat := 61
def cR : Nat := 62
def ij : Nat := 63
def fK : Nat := 67
def ue : Nat := 68
def dr : Nat := 71
def fJ : Nat := 72
def Ct : Nat := 73
def t7 : Nat := 74
def uf : Nat := 75
def yG : Nat := 76
def yE : Nat := 77
def dl : Nat := 78
def eM : Nat := 80
def dq : Nat := 92
def rW : Nat := 93
def ua : Nat := 94
def yH : Nat := 95
def Ah : Nat := 96
def Ag : Nat := 97
def aX : Nat := 98
def lg : Nat := 99
def kQ : Nat := 101
def yI : Nat := 117
def ud : Nat := 118
def ug : Nat := 150
def yF : Nat := 151
def ri : Nat := 181
def Ef : Nat := 338
section
variable (O C J A B N D S P G I E L M K T Q U V R : Value) (H : AH)
noncomputable def kF (p : List Nat) : Code := Code.sub (bh Tryz.f10) p
noncomputable def mh : KK := ed PP (Tryz.f10).results.toList
noncomputable def YX : KK := CQ (kF [1, 1, 1]) mh bg mh
noncomputable def z0 : OV := YX (ls [u, u, J, u, A] 66) H
noncomputable def PK : KK := CQ (kF [1, 1, 1, 1]) mh bg mh
noncomputable def YV : KK := bX Ne PK
noncomputable def qY : OV := PK (ls [u, u, J, u, A] 66) H
noncomputable def YZ : KK := CQ (kF [1, 1, 1, 0, 1]) YV bg mh
noncomputable def z4 : OV := YZ (ls [u, u, J, u, A, B] 65) H
noncomputable def PN : KX := BX 0 YV bg
noncomputable def Ko : KX := iz Ne (PN)
noncomputable def PL : KK := qq (kF [1, 1, 1, 0, 1, 4, 5]) Ko mh
noncomputable def YW : KK := bX wP PL
noncomputable def lP : OV := PL (ls [u, u, J, u, A, B] 65) H
noncomputable def Y1 : KK := CQ (kF [1, 1, 1, 0, 1, 4, 5, 1]) YW Ko mh
noncomputable def z5 : OV := Y1 (ls [u, u, J, u, A, B] 65) H
noncomputable def PM : KK := CQ (kF [1, 1, 1, 0, 1, 4, 5, 1, 1]) YW Ko mh
noncomputable def PJ : KK := bX wP PM
noncomputable def qZ : OV := PM (ls [u, u, J, u, A, B] 65) H
noncomputable def Tc : KX := BX 1 PJ Ko
noncomputable def Td : KX := iz wP (Tc)
noncomputable def S9 : KK := CQ (kF [1, 1, 1, 0, 1, 4, 5, 1, 0, 4, 1]) PJ Td mh
noncomputable def xe : OV := S9 (ls [u, u, J, u, A, B, N] 64) H
noncomputable def Kn : KX := BX 2 PJ Td
noncomputable def ES : KX := iz wP (Kn)
noncomputable def Kl : KK := qq (kF [1, 1, 1, 0, 1, 4, 5, 1, 0, 4, 1, 4, 5]) ES mh
noncomputable def S8 : KK := bX FT Kl
noncomputable def ki : OV := Kl (ls [u, u, J, u, A, B, N] 64) H
noncomputable def Tb : KK := CQ (kF [1, 1, 1, 0, 1, 4, 5, 1, 0, 4, 1, 4, 5, 1]) S8 ES mh
noncomputable def xf : OV := Tb (ls [u, u, J, u, A, B, N] 64) H
noncomputable def Km : KK := CQ (kF [1, 1, 1, 0, 1, 4, 5, 1, 0, 4, 1, 4, 5, 1, 1]) S8 ES mh
noncomputable def aiS : KK := bX FT Km
noncomputable def xg : OV := Km (ls [u, u, J, u, A, B, N] 64) H
noncomputable def aiT : KX := BX 3 aiS ES
noncomputable def rQ : OV := Kn 2 (ls [u, u, J, u, A, B] 65) H
noncomputable def tX : OV := PN 0 (ls [u, u, J, u, A] 66) H
theorem gP : af 2361183241434822606831 mh := rf
theorem YY : af Ne YX := rc gP am gP
theorem Gp : af Ne PK := rc gP am gP
theorem Y0 : af wP YZ := rc (cd (Gp)) am gP
theorem tc : ∀ i, af Ne (PN i) := rb (cd (Gp)) am
theorem zl : af wP PL := rl (cx (tc)) gP
theorem Y2 : af wP Y1 := rc (cd (zl)) (cx (tc)) gP
theorem zm : af wP PM := rc (cd (zl)) (cx (tc)) gP
theorem B1 : ∀ i, af wP (Tc i) := rb (cd (zm)) (cx (tc))
theorem VY : af FT S9 := rc (cd (zm)) (cx (B1)) gP
theorem o5 : ∀ i, af wP (Kn i) := rb (cd (zm)) (cx (B1))
theorem vG : af FT Kl := rl (cx (o5)) gP
theorem VZ : af FT Tb := rc (cd (vG)) (cx (o5)) gP
theorem Jf : af FT Km := rc (cd (vG)) (cx (o5)) gP
theorem V0 : ∀ i, af FT (aiT i) := rb (cd (Jf)) (cx (o5))
theorem rR : qY J A H =
 (aQ 6 J H).bind fun b =>
 (fT 6 A b H).bind fun a =>
 (aQ 6 A a).bind fun c => some (c, a) :=
 (by kernel_rfl)
theorem D7 : qZ J A B H =
 (ag .other .add B (vi 1)).bind fun a =>
 lP J A a H :=
 (by kernel_rfl)
theorem Cq : xg J A B N H =
 (ag .other .add N (vi 1)).bind fun a =>
 ki J A B a H :=
 (by kernel_rfl)
theorem Cp : xf J A B N H =
 ld [.f 5] J H fun l =>
 ld [.i 1 B] l H fun m =>
 ad [.i 4 N] m fun a =>
 ld [.n, .f 0] a H fun o =>
 (FF aD [o, (vi 2147483648)] H).bind fun c =>
 ad [.n, .f 1] a fun j =>
 (aA j c.2).bind fun p =>
 ic (aA j H) (aA j c.2) <|
 (FF aD [p, (vi 2147483648)] c.2).bind fun d =>
 ad [.n, .f 2] a fun g =>
 (aA g d.2).bind fun q =>
 ic (aA g H) (aA g d.2) <|
 ic (aA g c.2) (aA g d.2) <|
 (FF aD [q, (vi 2147483648)] d.2).bind fun e =>
 ad [.n, .f 3] a fun b =>
 (aA b e.2).bind fun s =>
 ic (aA b H) (aA b e.2) <|
 ic (aA b c.2) (aA b e.2) <|
 ic (aA b d.2) (aA b e.2) <|
 (FF aD [s, (vi 2147483648)] e.2).bind fun k =>
 st 1 [.n, .f 0] a c.1 k.2 fun t =>
 st 1 [.n, .f 1] a d.1 t fun w =>
 st 1 [.n, .f 2] a e.1 w fun y =>
 st 1 [.n, .f 3] a k.1 y fun z =>
 xg J A B N z :=
 (pt rfl 0 (Jf) (bt rfl (kF [1, 1, 1, 0, 1, 4, 5, 1, 0, 4, 1, 4, 5, 1, 0, 4]) 3 (V0) (by kernel_rfl)))
theorem yB : rQ J A B H = qZ J A B H :=
 (by kernel_rfl)
theorem pK : ki J A B N H =
 ld [.f 5] J H fun a =>
 ld [.i 1 B] a H fun b =>
 cB b fun c =>
 (ag .other .lss N c).bind fun d =>
 aw d
 (xf J A B N H)
 (rQ J A B H) :=
 qr rfl (vG) (pt rfl 0 (VZ) (by kernel_rfl))
theorem Co : xe J A B N H =
 ki J A B N H :=
 (bt rfl (kF [1, 1, 1, 0, 1, 4, 5, 1, 0, 4, 1, 4]) 2 (o5) (li rfl (kF [1, 1, 1, 0, 1, 4, 5, 1, 0, 4, 1, 4, 5]) (vG) (by kernel_rfl)))
theorem D6 : z5 J A B H =
 xe J A B (vi 0) H :=
 (pt rfl 0 (zm) (bt rfl (kF [1, 1, 1, 0, 1, 4, 5, 1, 0, 4]) 1 (B1) (pt rfl 0 (VY) (by kernel_rfl))))
theorem zZ : tX J A H = qY J A H :=
 (by kernel_rfl)
theorem rS : lP J A B H =
 ld [.f 5] J H fun a =>
 cB a fun b =>
 (ag .other .lss B b).bind fun c =>
 aw c
 (z5 J A B H)
 (tX J A H) :=
 qr rfl (zl) (pt rfl 0 (Y2) (by kernel_rfl))
theorem D5 : z4 J A B H =
 lP J A B H :=
 (bt rfl (kF [1, 1, 1, 0, 1, 4]) 0 (tc) (li rfl (kF [1, 1, 1, 0, 1, 4, 5]) (zl) (by kernel_rfl)))
theorem D4 : z0 J A H =
 z4 J A (vi 0) H :=
 (pt rfl 0 (Gp) (pt rfl 0 (Y0) (by kernel_rfl)))
noncomputable def W7 : OV := aM PP GG FF (kF []) (ls [O, C] 69) H mh bg mh
theorem Mh {r : Value × AH} (h : (
 bA (Value.cells O).toList H fun a g =>
 bA [(vi 0), (vi 0), (vi 0), (vi 0), (vw 0), (.slice none 0 0)] g fun b d =>
 (aQ 6 a d).bind fun i =>
 (FF nM [i, (vi 5)] d).bind fun e =>
 (fT 6 a e.1 e.2).bind fun c =>
 (ag .other .rem C (vi 5)).bind fun j =>
 (ag .other .eql j (vi 0)).bind fun k =>
 aw k
 ((aQ 6 a c).bind fun l =>
 (fT 6 b l c).bind fun f =>
 (aQ 6 b f).bind fun m => some (m, f))
 (z0 a b c)) = some r) : FF kR [O, C] H = some r :=
 fo (t := W7 O C H) Tryz.func10 (by kernel_rfl) (Eq.trans (pt rfl 2 (YY) (by kernel_rfl)) h)
noncomputable def wU (p : List Nat) : Code := Code.sub (bh Tryz.f11) p
noncomputable def td : KK := ed PP (Tryz.f11).results.toList
noncomputable def Y6 : KK := CQ (wU [1, 1]) td bg td
noncomputable def z7 : OV := Y6 (ls [O, C, u, u, A, B] 30) H
noncomputable def PR : KK := CQ (wU [1, 1, 1]) td bg td
noncomputable def Y4 : KK := bX 68719476687 PR
noncomputable def z8 : OV := PR (ls [u, u, u, u, A, B] 30) H
noncomputable def Y8 : KK := CQ (wU [1, 1, 0, 1]) Y4 bg td
noncomputable def z9 : OV := Y8 (ls [O, C, u, u, A, B, N] 29) H
noncomputable def PU : KX := BX 0 Y4 bg
noncomputable def Ku : KX := iz 68719476687 (PU)
noncomputable def PS : KK := qq (wU [1, 1, 0, 1, 4, 5]) Ku td
noncomputable def Y5 : KK := bX FY PS
noncomputable def lQ : OV := PS (ls [O, C, u, u, A, B, N] 29) H
noncomputable def Za : KK := CQ (wU [1, 1, 0, 1, 4, 5, 1]) Y5 Ku td
noncomputable def Aa : OV := Za (ls [O, C, u, u, A, B, N] 29) H
noncomputable def PT : KK := CQ (wU [1, 1, 0, 1, 4, 5, 1, 1]) Y5 Ku td
noncomputable def am2 : KK := bX FY PT
noncomputable def q7 : OV := PT (ls [O, C, u, u, A, B, N] 29) H
noncomputable def am3 : KX := BX 1 am2 Ku
noncomputable def mw : OV := PU 0 (ls [u, u, u, u, A, B] 30) H
theorem nx : af 68719476719 td := rf
theorem Y7 : af 68719476684 Y6 := rc nx am nx
theorem Gv : af 68719476687 PR := rc nx am nx
theorem Y9 : af FY Y8 := rc (cd (Gv)) am nx
theorem te : ∀ i, af 68719476687 (PU i) := rb (cd (Gv)) am
theorem zn : af FY PS := rl (cx (te)) nx
theorem Zb : af FY Za := rc (cd (zn)) (cx (te)) nx
theorem NH : af FY PT := rc (cd (zn)) (cx (te)) nx
theorem Zc : ∀ i, af FY (am3 i) := rb (cd (NH)) (cx (te))
theorem D9 : z8 A B H =
 some (B, H) :=
 (by kernel_rfl)
theorem rU : q7 O C A B N H =
 (ag .other .add N (vi 1)).bind fun a =>
 lQ O C A B a H :=
 (by kernel_rfl)
theorem Eb : Aa O C A B N H =
 (ag .other .rem C (vi 7)).bind fun d =>
 (ag .other .eql d (vi 0)).bind fun e =>
 aw e
 (ld [.i 1 N] O H fun f =>
 la 1 1 [(vi 0)] [(0, f)] H fun g j =>
 (cz 1 8 B g j).bind fun a =>
 q7 O C A a.1 N a.2)
 (ld [.i 1 N] O H fun k =>
 (FF aD [k, (vi 64)] H).bind fun b =>
 la 1 1 [(vi 0)] [(0, b.1)] b.2 fun l m =>
 (cz 1 8 B l m).bind fun c =>
 q7 O C A c.1 N c.2) :=
 (pt rfl 0 (NH) (bt rfl (wU [1, 1, 0, 1, 4, 5, 1, 0, 4]) 1 (Zc) (by kernel_rfl)))
theorem z6 : mw A B H = z8 A B H :=
 (by kernel_rfl)
theorem rT : lQ O C A B N H =
 cB O fun b =>
 (ag .other .lss N b).bind fun a =>
 (gV a true N).bind fun c =>
 (gB a true (ag .other .lss c (vi 60))).bind fun d =>
 (aE a d (vb false)).bind fun e =>
 aw e
 (Aa O C A B N H)
 (mw A B H) :=
 qr rfl (zn) (pt rfl 0 (Zb) (by kernel_rfl))
theorem Ea : z9 O C A B N H =
 lQ O C A B N H :=
 (bt rfl (wU [1, 1, 0, 1, 4]) 0 (te) (li rfl (wU [1, 1, 0, 1, 4, 5]) (zn) (by kernel_rfl)))
theorem D8 : z7 O C A B H =
 z9 O C A B (vi 0) H :=
 (pt rfl 0 (Gv) (pt rfl 0 (Y9) (by kernel_rfl)))
noncomputable def W8 : OV := aM PP GG FF (wU []) (ls [O, C] 34) H td bg td
theorem Mi {r : Value × AH} (h : (
 z7 O C (.slice none 0 0) (.slice none 0 0) H) = some r) : FF kS [O, C] H = some r :=
 fo (t := W8 O C H) Tryz.func11 (by kernel_rfl) (Eq.trans (pt rfl 1 (Y7) (by kernel_rfl)) h)
noncomputable def ch (p : List Nat) : Code := Code.sub (bh Tryz.f12) p
noncomputable def cX : KK := ed PP (Tryz.f12).results.toList
noncomputable def Zh : KK := CQ (ch [1, 1, 1, 1]) cX bg cX
noncomputable def p0 : OV := Zh (ls [u, C, J, u, A, B, N, D] 89) H
noncomputable def PV : KK := CQ (ch [1, 1, 1, 1, 1]) cX bg cX
noncomputable def Zd : KK := bX Nb PV
noncomputable def ka : OV := PV (ls [u, C, J, u, A, B, N, D] 89) H
noncomputable def Zj : KK := CQ (ch [1, 1, 1, 1, 1, 1]) cX bg cX
noncomputable def p9 : OV := Zj (ls [u, C, J, u, A, B, u, D] 89) H
noncomputable def PW : KK := CQ (ch [1, 1, 1, 1, 1, 1, 1]) cX bg cX
noncomputable def Ze : KK := bX Nc PW
noncomputable def qa : OV := PW (ls [u, C, u, u, A, B, u, D] 89) H
noncomputable def Zl : KK := CQ (ch [1, 1, 1, 1, 1, 1, 1, 1]) cX bg cX
noncomputable def qb : OV := Zl (ls [u, C, u, u, A, B, u, D] 89) H
noncomputable def PX : KK := CQ (ch [1, 1, 1, 1, 1, 1, 1, 1, 1]) cX bg cX
noncomputable def Zf : KK := bX SN PX
noncomputable def qc : OV := PX (ls [u, u, u, u, A, B, u, D] 89) H
noncomputable def Zn : KK := CQ (ch [1, 1, 1, 1, 1, 1, 1, 1, 0, 1]) Zf bg cX
noncomputable def qd : OV := Zn (ls [u, u, u, u, A, B, u, D, u, u, u, u, u, u, u, u, u, u, u, u, u, u, u, u, u, u, u, u, u, u, u, u, u, u, u, u, u, u, u, u, u, u, u, u, u, u, u, u, u, u, u, u, u, u, u, u, u, u, u, u, u, u, u, u, u, u, u, u, u, u, u, u, u, u, u, u, u, u, u, u, u, u, u, u, u, U, V, R] 9) H
noncomputable def PZ : KX := BX 8 Zf bg
noncomputable def KL : KX := iz SN (PZ)
noncomputable def PY : KK := qq (ch [1, 1, 1, 1, 1, 1, 1, 1, 0, 1, 4, 5]) KL cX
noncomputable def Zg : KK := bX FN PY
noncomputable def gc : OV := PY (ls [u, u, u, u, A, B, u, D, u, u, u, u, u, u, u, u, u, u, u, u, u, u, u, u, u, u, u, u, u, u, u, u, u, u, u, u, u, u, u, u, u, u, u, u, u, u, u, u, u, u, u, u, u, u, u, u, u, u, u, u, u, u, u, u, u, u, u, u, u, u, u, u, u, u, u, u, u, u, u, u, u, u, u, u, u, U, V, R] 9) H
noncomputable def Zp : KK := CQ (ch [1, 1, 1, 1, 1, 1, 1, 1, 0, 1, 4, 5, 1, 1]) Zg KL cX
noncomputable def qe : OV := Zp (ls [u, u, u, u, A, B, u, D, u, u, u, u, u, u, u, u, u, u, u, u, u, u, u, u, u, u, u, u, u, u, u, u, u, u, u, u, u, u, u, u, u, u, u, u, u, u, u, u, u, u, u, u, u, u, u, u, u, u, u, u, u, u, u, u, u, u, u, u, u, u, u, u, u, u, u, u, u, u, u, u, u, u, u, u, u, U, V, R] 9) H
noncomputable def Kx : KK := CQ (ch [1, 1, 1, 1, 1, 1, 1, 1, 0, 1, 4, 5, 1, 1, 1]) Zg KL cX
noncomputable def aiX : KK := bX FN Kx
noncomputable def nY : OV := Kx (ls [u, u, u, u, A, B, u, D, u, u, u, u, u, u, u, u, u, u, u, u, u, u, u, u, u, u, u, u, u, u, u, u, u, u, u, u, u, u, u, u, u, u, u, u, u, u, u, u, u, u, u, u, u, u, u, u, u, u, u, u, u, u, u, u, u, u, u, u, u, u, u, u, u, u, u, u, u, u, u, u, u, u, u, u, u, U, V, R] 9) H
noncomputable def ai0 : KX := BX 9 aiX KL
noncomputable def mL : OV := PZ 8 (ls [u, u, u, u, A, B, u, D] 89) H
noncomputable def Tn : KK := CQ (ch [1, 1, 1, 1, 1, 1, 0, 1]) Ze bg cX
noncomputable def nZ : OV := Tn (ls [u, C, u, u, A, B, u, D, u, u, u, u, u, u, u, u, u, u, u, u, u, u, u, u, u, u, u, u, u, u, u, u, u, u, u, u, u, u, u, u, u, u, u, u, u, u, u, u, u, u, u, G, I, E] 43) H
noncomputable def KG : KX := BX 2 Ze bg
noncomputable def EU : KX := iz Nc (KG)
noncomputable def Ky : KK := qq (ch [1, 1, 1, 1, 1, 1, 0, 1, 4, 5]) EU cX
noncomputable def Tj : KK := bX Ip Ky
noncomputable def fB : OV := Ky (ls [u, C, u, u, A, B, u, D, u, u, u, u, u, u, u, u, u, u, u, u, u, u, u, u, u, u, u, u, u, u, u, u, u, u, u, u, u, u, u, u, u, u, u, u, u, u, u, u, u, u, u, G, I, E] 43) H
noncomputable def To : KK := CQ (ch [1, 1, 1, 1, 1, 1, 0, 1, 4, 5, 1, 1]) Tj EU cX
noncomputable def n7 : OV := To (ls [u, C, u, u, A, B, u, D, u, u, u, u, u, u, u, u, u, u, u, u, u, u, u, u, u, u, u, u, u, u, u, u, u, u, u, u, u, u, u, u, u, u, u, u, u, u, u, u, u, u, u, G, I, E] 43) H
noncomputable def Kz : KK := CQ (ch [1, 1, 1, 1, 1, 1, 0, 1, 4, 5, 1, 1, 1]) Tj EU cX
noncomputable def Kv : KK := bX Ip Kz
noncomputable def ji : OV := Kz (ls [u, C, u, u, A, B, u, D, u, u, u, u, u, u, u, u, u, u, u, u, u, u, u, u, u, u, u, u, u, u, u, u, u, u, u, u, u, u, u, u, u, u, u, u, u, u, u, u, u, u, u, G, I, E] 43) H
noncomputable def Tz : KX := BX 3 Kv EU
noncomputable def TB : KX := iz Ip (Tz)
noncomputable def Tp : KK := CQ (ch [1, 1, 1, 1, 1, 1, 0, 1, 4, 5, 1, 1, 0, 4, 1, 1, 1]) Kv TB cX
noncomputable def n8 : OV := Tp (ls [u, C, u, u, A, B, u, D, u, u, u, u, u, u, u, u, u, u, u, u, u, u, u, u, u, u, u, u, u, u, u, u, u, u, u, u, u, u, u, u, u, u, u, u, u, u, u, u, u, u, u, G, I, E, u, u, u, u, u, u, u, u, L, M, K] 32) H
noncomputable def KH : KX := BX 4 Kv TB
noncomputable def EV : KX := iz Ip (KH)
noncomputable def KA : KK := qq (ch [1, 1, 1, 1, 1, 1, 0, 1, 4, 5, 1, 1, 0, 4, 1, 1, 1, 4, 5]) EV cX
noncomputable def Tk : KK := bX Iq KA
noncomputable def fC : OV := KA (ls [u, C, u, u, A, B, u, D, u, u, u, u, u, u, u, u, u, u, u, u, u, u, u, u, u, u, u, u, u, u, u, u, u, u, u, u, u, u, u, u, u, u, u, u, u, u, u, u, u, u, u, G, I, E, u, u, u, u, u, u, u, u, L, M, K] 32) H
noncomputable def Tq : KK := CQ (ch [1, 1, 1, 1, 1, 1, 0, 1, 4, 5, 1, 1, 0, 4, 1, 1, 1, 4, 5, 1, 1]) Tk EV cX
noncomputable def n9 : OV := Tq (ls [u, C, u, u, A, B, u, D, u, u, u, u, u, u, u, u, u, u, u, u, u, u, u, u, u, u, u, u, u, u, u, u, u, u, u, u, u, u, u, u, u, u, u, u, u, u, u, u, u, u, u, G, I, E, u, u, u, u, u, u, u, u, L, M, K] 32) H
noncomputable def KB : KK := CQ (ch [1, 1, 1, 1, 1, 1, 0, 1, 4, 5, 1, 1, 0, 4, 1, 1, 1, 4, 5, 1, 1, 1]) Tk EV cX
noncomputable def Kw : KK := bX Iq KB
noncomputable def jj : OV := KB (ls [u, C, u, u, A, B, u, D, u, u, u, u, u, u, u, u, u, u, u, u, u, u, u, u, u, u, u, u, u, u, u, u, u, u, u, u, u, u, u, u, u, u, u, u, u, u, u, u, u, u, u, G, I, E, u, u, u, u, u, u, u, u, L, M, K] 32) H
noncomputable def TA : KX := BX 5 Kw EV
noncomputable def TC : KX := iz Iq (TA)
noncomputable def Tt : KK := CQ (ch [1, 1, 1, 1, 1, 1, 0, 1, 4, 5, 1, 1, 0, 4, 1, 1, 1, 4, 5, 1, 1, 0, 4, 1, 1]) Kw TC cX
noncomputable def oa : OV := Tt (ls [u, C, u, u, A, B, u, D, u, u, u, u, u, u, u, u, u, u, u, u, u, u, u, u, u, u, u, u, u, u, u, u, u, u, u, u, u, u, u, u, u, u, u, u, u, u, u, u, u, u, u, G, I, E, u, u, u, u, u, u, u, u, L, M, K, u, u, u, u, T, Q] 26) H
noncomputable def KI : KX := BX 6 Kw TC
noncomputable def EW : KX := iz Iq (KI)
noncomputable def KC : KK := qq (ch [1, 1, 1, 1, 1, 1, 0, 1, 4, 5, 1, 1, 0, 4, 1, 1, 1, 4, 5, 1, 1, 0, 4, 1, 1, 4, 5]) EW cX
noncomputable def Tl : KK := bX FO KC
noncomputable def fD : OV := KC (ls [u, C, u, u, A, B, u, D, u, u, u, u, u, u, u, u, u, u, u, u, u, u, u, u, u, u, u, u, u, u, u, u, u, u, u, u, u, u, u, u, u, u, u, u, u, u, u, u, u, u, u, G, I, E, u, u, u, u, u, u, u, u, L, M, K, u, u, u, u, T, Q] 26) H
noncomputable def Tv : KK := CQ (ch [1, 1, 1, 1, 1, 1, 0, 1, 4, 5, 1, 1, 0, 4, 1, 1, 1, 4, 5, 1, 1, 0, 4, 1, 1, 4, 5, 1, 1]) Tl EW cX
noncomputable def oc : OV := Tv (ls [u, C, u, u, A, B, u, D, u, u, u, u, u, u, u, u, u, u, u, u, u, u, u, u, u, u, u, u, u, u, u, u, u, u, u, u, u, u, u, u, u, u, u, u, u, u, u, u, u, u, u, G, I, E, u, u, u, u, u, u, u, u, L, M, K, u, u, u, u, T, Q] 26) H
noncomputable def KD : KK := CQ (ch [1, 1, 1, 1, 1, 1, 0, 1, 4, 5, 1, 1, 0, 4, 1, 1, 1, 4, 5, 1, 1, 0, 4, 1, 1, 4, 5, 1, 1, 1]) Tl EW cX
noncomputable def aiY : KK := bX FO KD
noncomputable def od : OV := KD (ls [u, C, u, u, A, B, u, D, u, u, u, u, u, u, u, u, u, u, u, u, u, u, u, u, u, u, u, u, u, u, u, u, u, u, u, u, u, u, u, u, u, u, u, u, u, u, u, u, u, u, u, G, I, E, u, u, u, u, u, u, u, u, L, M, K, u, u, u, u, T, Q] 26) H
noncomputable def ai1 : KX := BX 7 aiY EW
noncomputable def lK : OV := KI 6 (ls [u, C, u, u, A, B, u, D, u, u, u, u, u, u, u, u, u, u, u, u, u, u, u, u, u, u, u, u, u, u, u, u, u, u, u, u, u, u, u, u, u, u, u, u, u, u, u, u, u, u, u, G, I, E, u, u, u, u, u, u, u, u, L, M, K] 32) H
noncomputable def lJ : OV := KH 4 (ls [u, C, u, u, A, B, u, D, u, u, u, u, u, u, u, u, u, u, u, u, u, u, u, u, u, u, u, u, u, u, u, u, u, u, u, u, u, u, u, u, u, u, u, u, u, u, u, u, u, u, u, G, I, E] 43) H
noncomputable def lI : OV := KG 2 (ls [u, C, u, u, A, B, u, D] 89) H
noncomputable def Tw : KK := CQ (ch [1, 1, 1, 1, 0, 1]) Zd bg cX
noncomputable def og : OV := Tw (ls [u, C, J, u, A, B, N, D, u, u, u, u, u, u, u, u, u, u, u, u, u, u, u, u, u, u, u, u, u, u, u, u, S, P] 63) H
noncomputable def KJ : KX := BX 0 Zd bg
noncomputable def EX : KX := iz Nb (KJ)
noncomputable def KE : KK := qq (ch [1, 1, 1, 1, 0, 1, 4, 5]) EX cX
noncomputable def Tm : KK := bX FP KE
noncomputable def fE : OV := KE (ls [u, C, J, u, A, B, N, D, u, u, u, u, u, u, u, u, u, u, u, u, u, u, u, u, u, u, u, u, u, u, u, u, S, P] 63) H
noncomputable def Tx : KK := CQ (ch [1, 1, 1, 1, 0, 1, 4, 5, 1, 1]) Tm EX cX
noncomputable def oh : OV := Tx (ls [u, C, J, u, A, B, N, D, u, u, u, u, u, u, u, u, u, u, u, u, u, u, u, u, u, u, u, u, u, u, u, u, S, P] 63) H
noncomputable def KF : KK := CQ (ch [1, 1, 1, 1, 0, 1, 4, 5, 1, 1, 1]) Tm EX cX
noncomputable def aiZ : KK := bX FP KF
noncomputable def ol : OV := KF (ls [u, C, J, u, A, B, N, D, u, u, u, u, u, u, u, u, u, u, u, u, u, u, u, u, u, u, u, u, u, u, u, u, S, P] 63) H
noncomputable def ai2 : KX := BX 1 aiZ EX
noncomputable def lL : OV := KJ 0 (ls [u, C, J, u, A, B, N, D] 89) H
theorem bG : af 158456325028528675187087900623 cX := rf
theorem Zi : af Nb Zh := rc bG am bG
theorem Gw : af Nb PV := rc bG am bG
theorem Zk : af 158456325028528675187087900489 Zj := rc bG am bG
theorem Gx : af Nc PW := rc bG am bG
theorem Zm : af Nc Zl := rc bG am bG
theorem Gy : af SN PX := rc bG am bG
theorem Zo : af FN Zn := rc (cd (Gy)) am bG
theorem tf : ∀ i, af SN (PZ i) := rb (cd (Gy)) am
theorem zo : af FN PY := rl (cx (tf)) bG
theorem Zq : af FN Zp := rc (cd (zo)) (cx (tf)) bG
theorem Ji : af FN Kx := rc (cd (zo)) (cx (tf)) bG
theorem Wd : ∀ i, af FN (ai0 i) := rb (cd (Ji)) (cx (tf))
theorem V5 : af Ip Tn := rc (cd (Gx)) am bG
theorem o7 : ∀ i, af Nc (KG i) := rb (cd (Gx)) am
theorem vI : af Ip Ky := rl (cx (o7)) bG
theorem V6 : af Ip To := rc (cd (vI)) (cx (o7)) bG
theorem vJ : af Ip Kz := rc (cd (vI)) (cx (o7)) bG
theorem B3 : ∀ i, af Ip (Tz i) := rb (cd (vJ)) (cx (o7))
theorem V7 : af Iq Tp := rc (cd (vJ)) (cx (B3)) bG
theorem o8 : ∀ i, af Ip (KH i) := rb (cd (vJ)) (cx (B3))
theorem vK : af Iq KA := rl (cx (o8)) bG
theorem V8 : af Iq Tq := rc (cd (vK)) (cx (o8)) bG
theorem vL : af Iq KB := rc (cd (vK)) (cx (o8)) bG
theorem B4 : ∀ i, af Iq (TA i) := rb (cd (vL)) (cx (o8))
theorem V9 : af FO Tt := rc (cd (vL)) (cx (B4)) bG
theorem o9 : ∀ i, af Iq (KI i) := rb (cd (vL)) (cx (B4))
theorem vM : af FO KC := rl (cx (o9)) bG
theorem Wa : af FO Tv := rc (cd (vM)) (cx (o9)) bG
theorem Jj : af FO KD := rc (cd (vM)) (cx (o9)) bG
theorem We : ∀ i, af FO (ai1 i) := rb (cd (Jj)) (cx (o9))
theorem Wb : af FP Tw := rc (cd (Gw)) am bG
theorem pa : ∀ i, af Nb (KJ i) := rb (cd (Gw)) am
theorem vN : af FP KE := rl (cx (pa)) bG
theorem Wc : af FP Tx := rc (cd (vN)) (cx (pa)) bG
theorem Jk : af FP KF := rc (cd (vN)) (cx (pa)) bG
theorem Wf : ∀ i, af FP (ai2 i) := rb (cd (Jk)) (cx (pa))
theorem wI : qc A B D H =
 some (Value.tuple #[D, (vi 0)], H) :=
 (by kernel_rfl)
theorem uM : nY A B D U V R H =
 (ag .other .add R (vi 1)).bind fun a =>
 gc A B D U V a H :=
 (by kernel_rfl)
theorem wK : qe A B D U V R H =
 ld [.i 1 R] U H fun b =>
 (aO (some .u64) b).bind fun c =>
 (FF dp [D, c] H).bind fun a =>
 nY A B a.1 U V R a.2 :=
 (pt rfl 0 (Ji) (bt rfl (ch [1, 1, 1, 1, 1, 1, 1, 1, 0, 1, 4, 5, 1, 1, 0, 4]) 9 (Wd) (by kernel_rfl)))
theorem sK : mL A B D H = qc A B D H :=
 (by kernel_rfl)
theorem lM : gc A B D U V R H =
 (ag .other .lss R V).bind fun a =>
 aw a
 (qe A B D U V R H)
 (mL A B D H) :=
 qr rfl (zo) (pt rfl 1 (Zq) (by kernel_rfl))
theorem wJ : qd A B D U V R H =
 gc A B D U V R H :=
 (bt rfl (ch [1, 1, 1, 1, 1, 1, 1, 1, 0, 1, 4]) 8 (tf) (li rfl (ch [1, 1, 1, 1, 1, 1, 1, 1, 0, 1, 4, 5]) (zo) (by kernel_rfl)))
theorem wH : qb C A B D H =
 cB C fun a =>
 qd A B D C a (vi 0) H :=
 (pt rfl 0 (Gy) (pt rfl 0 (Zo) (by kernel_rfl)))
theorem wG : qa C A B D H =
 cB C fun b =>
 (aO (some .u64) b).bind fun c =>
 (FF dp [D, c] H).bind fun a =>
 qb C A B a.1 a.2 :=
 (pt rfl 0 (Zm) (by kernel_rfl))
theorem uP : ji C A B D G I E H =
 (ag .other .add E (vi 1)).bind fun a =>
 fB C A B D G I a H :=
 (by kernel_rfl)
theorem uS : jj C A B D G I E L M K H =
 (ag .other .add K (vi 1)).bind fun a =>
 fC C A B D G I E L M a H :=
 (by kernel_rfl)
theorem uV : od C A B D G I E L M K T Q H =
 (ag .other .add Q (vi 1)).bind fun a =>
 fD C A B D G I E L M K T a H :=
 (by kernel_rfl)
theorem uU : oc C A B D G I E L M K T Q H =
 (eU 4 none 1 T Q).bind fun b =>
 (aO (some .u64) b).bind fun c =>
 (FF dp [D, c] H).bind fun a =>
 od C A B a.1 G I E L M K T Q a.2 :=
 (pt rfl 0 (Jj) (bt rfl (ch [1, 1, 1, 1, 1, 1, 0, 1, 4, 5, 1, 1, 0, 4, 1, 1, 1, 4, 5, 1, 1, 0, 4, 1, 1, 4, 5, 1, 1, 0, 4]) 7 (We) (by kernel_rfl)))
theorem rx : lK C A B D G I E L M K H = jj C A B D G I E L M K H :=
 (by kernel_rfl)
theorem kZ : fD C A B D G I E L M K T Q H =
 (ag .other .lss Q (vi 4)).bind fun a =>
 aw a
 (oc C A B D G I E L M K T Q H)
 (lK C A B D G I E L M K H) :=
 qr rfl (vM) (pt rfl 1 (Wa) (by kernel_rfl))
theorem uT : oa C A B D G I E L M K T Q H =
 fD C A B D G I E L M K T Q H :=
 (bt rfl (ch [1, 1, 1, 1, 1, 1, 0, 1, 4, 5, 1, 1, 0, 4, 1, 1, 1, 4, 5, 1, 1, 0, 4, 1, 1, 4]) 6 (o9) (li rfl (ch [1, 1, 1, 1, 1, 1, 0, 1, 4, 5, 1, 1, 0, 4, 1, 1, 1, 4, 5, 1, 1, 0, 4, 1, 1, 4, 5]) (vM) (by kernel_rfl)))
theorem uR : n9 C A B D G I E L M K H =
 ldN 4 [.i 4 K] L H fun d =>
 bA [(vi 0), (vi 0), (vi 0), (vi 0)] H fun a e =>
 (fT 4 a d e).bind fun b =>
 (aQ 4 a b).bind fun f =>
 (FF ga [f] b).bind fun c =>
 oa C A B D G I E L M K c.1 (vi 0) c.2 :=
 (pt rfl 0 (vL) (bt rfl (ch [1, 1, 1, 1, 1, 1, 0, 1, 4, 5, 1, 1, 0, 4, 1, 1, 1, 4, 5, 1, 1, 0, 4]) 5 (B4) (pt rfl 1 (V9) (by kernel_rfl))))
theorem rt : lJ C A B D G I E H = ji C A B D G I E H :=
 (by kernel_rfl)
theorem kY : fC C A B D G I E L M K H =
 (ag .other .lss K M).bind fun a =>
 aw a
 (n9 C A B D G I E L M K H)
 (lJ C A B D G I E H) :=
 qr rfl (vK) (pt rfl 1 (V8) (by kernel_rfl))
theorem uQ : n8 C A B D G I E L M K H =
 fC C A B D G I E L M K H :=
 (bt rfl (ch [1, 1, 1, 1, 1, 1, 0, 1, 4, 5, 1, 1, 0, 4, 1, 1, 1, 4]) 4 (o8) (li rfl (ch [1, 1, 1, 1, 1, 1, 0, 1, 4, 5, 1, 1, 0, 4, 1, 1, 1, 4, 5]) (vK) (by kernel_rfl)))
theorem uO : n7 C A B D G I E H =
 ld [.i 1 E] G H fun a =>
 cB a fun c =>
 (aO (some .u64) c).bind fun d =>
 (FF dp [D, d] H).bind fun b =>
 cB a fun e =>
 n8 C A B b.1 G I E a e (vi 0) b.2 :=
 (pt rfl 0 (vJ) (bt rfl (ch [1, 1, 1, 1, 1, 1, 0, 1, 4, 5, 1, 1, 0, 4]) 3 (B3) (pt rfl 2 (V7) (by kernel_rfl))))
theorem rr : lI C A B D H = qa C A B D H :=
 (by kernel_rfl)
theorem kX : fB C A B D G I E H =
 (ag .other .lss E I).bind fun a =>
 aw a
 (n7 C A B D G I E H)
 (lI C A B D H) :=
 qr rfl (vI) (pt rfl 1 (V6) (by kernel_rfl))
theorem uN : nZ C A B D G I E H =
 fB C A B D G I E H :=
 (bt rfl (ch [1, 1, 1, 1, 1, 1, 0, 1, 4]) 2 (o7) (li rfl (ch [1, 1, 1, 1, 1, 1, 0, 1, 4, 5]) (vI) (by kernel_rfl)))
theorem wF : p9 C J A B D H =
 ld [.f 5] J H fun a =>
 cB a fun b =>
 nZ C A B D a b (vi 0) H :=
 (pt rfl 0 (Gx) (pt rfl 0 (V5) (by kernel_rfl)))
theorem wE : ka C J A B N D H =
 ld [.f 4] N H fun e =>
 (FF dp [D, e] H).bind fun a =>
 ad [.f 5] J fun b =>
 (aA b a.2).bind fun c =>
 ic (aA b H) (aA b a.2) <|
 cB c fun g =>
 ic (apB c) (apB c) <|
 (aO (some .u64) g).bind fun i =>
 (FF dp [a.1, i] a.2).bind fun d =>
 p9 C J A B d.1 d.2 :=
 (pt rfl 0 (Zk) (by kernel_rfl))
theorem uY : ol C J A B N D S P H =
 (ag .other .add P (vi 1)).bind fun a =>
 fE C J A B N D S a H :=
 (by kernel_rfl)
theorem uX : oh C J A B N D S P H =
 (eU 4 none 1 S P).bind fun b =>
 (aO (some .u64) b).bind fun c =>
 (FF dp [D, c] H).bind fun a =>
 ol C J A B N a.1 S P a.2 :=
 (pt rfl 0 (Jk) (bt rfl (ch [1, 1, 1, 1, 0, 1, 4, 5, 1, 1, 0, 4]) 1 (Wf) (by kernel_rfl)))
theorem ry : lL C J A B N D H = ka C J A B N D H :=
 (by kernel_rfl)
theorem k7 : fE C J A B N D S P H =
 (ag .other .lss P (vi 4)).bind fun a =>
 aw a
 (oh C J A B N D S P H)
 (lL C J A B N D H) :=
 qr rfl (vN) (pt rfl 1 (Wc) (by kernel_rfl))
theorem uW : og C J A B N D S P H =
 fE C J A B N D S P H :=
 (bt rfl (ch [1, 1, 1, 1, 0, 1, 4]) 0 (pa) (li rfl (ch [1, 1, 1, 1, 0, 1, 4, 5]) (vN) (by kernel_rfl)))
theorem wD : p0 C J A B N D H =
 ld [.f 0] N H fun a =>
 ld [.f 1] N H fun b =>
 ld [.f 2] N H fun c =>
 ld [.f 3] N H fun d =>
 mkA 1 [(vi 0), (vi 0), (vi 0), (vi 0)] [(0, a), (1, b), (2, c), (3, d)] fun e =>
 og C J A B N D e (vi 0) H :=
 (pt rfl 0 (Gw) (pt rfl 0 (Wb) (by kernel_rfl)))
noncomputable def IL : OV := aM PP GG FF (ch []) (ls [O, C] 95) H cX bg cX
theorem CX {r : Value × AH} (h : (
 bA (Value.cells O).toList H fun b c =>
 (aQ 6 b c).bind fun e =>
 (FF rh [e, C] c).bind fun a =>
 (xi .not a.1).bind fun g =>
 aw g
 (some (Value.tuple #[(.slice none 0 0), (vi 1)], a.2))
 (ldN 5 [.f 0] b a.2 fun i =>
 bA [(vi 0), (vi 0), (vi 0), (vi 0), (vw 0)] a.2 fun d j =>
 (fT 5 d i j).bind fun k =>
 p0 C b (.slice none 0 0) (vi 0) d (.slice none 0 0) k)) = some r) : FF cJ [O, C] H = some r :=
 fo (t := IL O C H) Tryz.func12 (by kernel_rfl) (Eq.trans (pt rfl 3 (Zi) (by kernel_rfl)) h)
end
end Go.Proofs.YthagelbepgcolaaGreatDoor.Gst
