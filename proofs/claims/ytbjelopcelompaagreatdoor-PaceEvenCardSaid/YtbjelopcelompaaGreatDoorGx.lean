/- Slots that nobody looks at any more. -/
import Derived.Test.YtbjelopcelompaaGreatDoorGw
namespace Go.Proofs.YtbjelopcelompaaGreatDoor.Gst
open Go Go.RowKit
set_option linter.unusedSimpArgs false

/-- Alike but for the dead slots (the bits of a number). -/
def Agree (D : Nat) (A A' : List Value) : Prop := A.length = A'.length ∧ ∀ t, D.testBit t = false → A[t]? = A'[t]?

def clearFrom (D : Nat) : Nat → List Value → List Value
  | _, [] => []
  | i, v :: vs => (match D.testBit i with | true => undef | false => v) :: clearFrom D (i + 1) vs
def clear (D : Nat) (A : List Value) : List Value := clearFrom D 0 A

theorem clearFrom_length (D : Nat) : ∀ (A : List Value) (i : Nat), (clearFrom D i A).length = A.length := by
  intro A
  induction A with
  | nil => intro i; rfl
  | cons v vs ih => intro i; simp [clearFrom, ih]
theorem clearFrom_get (D : Nat) : ∀ (A : List Value) (i t : Nat), D.testBit (i + t) = false → (clearFrom D i A)[t]? = A[t]? := by
  intro A
  induction A with
  | nil => intro i t _; rfl
  | cons v vs ih =>
    intro i t h
    cases t with
    | zero => simp only [Nat.add_zero] at h; simp [clearFrom, h]
    | succ t => simp only [clearFrom, List.getElem?_cons_succ]; exact ih (i + 1) t (by rw [show i + 1 + t = i + (t + 1) from by omega]; exact h)
theorem clear_agree (D : Nat) (A : List Value) : Agree D A (clear D A) := ⟨(clearFrom_length D A 0).symm, fun t h => (clearFrom_get D A 0 t (by simpa using h)).symm⟩

/-- What goes on does not look at the dead slots. -/
def Resp {R : Type} (D : Nat) (k : List Value → AH → Option R) : Prop := ∀ A A' H, Agree D A A' → k A H = k A' H

def opr (D : Nat) : Operand → Bool
  | .tmp t => !D.testBit t
  | _ => true
def wipe (D : Nat) : Option Tmp → Nat
  | some d => match D.testBit d with | true => D ^^^ 2 ^ d | false => D
  | none => D
theorem wipe_le {D : Nat} {d : Option Tmp} {t : Nat} (h : D.testBit t = false) : (wipe D d).testBit t = false := by
  unfold wipe
  split
  · split
    · rename_i hd
      rw [Nat.testBit_xor, h, Nat.testBit_two_pow]
      simp
      intro e
      subst e; rw [h] at hd; cases hd
    · exact h
  · exact h
theorem wipe_self {D d : Nat} : (wipe D (some d)).testBit d = false := by
  unfold wipe
  simp only
  split
  · rename_i h; rw [Nat.testBit_xor, h, Nat.testBit_two_pow]; simp
  · rename_i h; exact h
theorem wipe_ne {D : Nat} {d : Option Tmp} {t : Nat} (h : (wipe D d).testBit t = false) (hd : d ≠ some t) : D.testBit t = false := by
  unfold wipe at h
  split at h
  · rename_i d
    split at h
    · rename_i hb
      rw [Nat.testBit_xor, Nat.testBit_two_pow] at h
      have : ¬ d = t := fun e => hd (by rw [e])
      simpa [this] using h
    · exact h
  · exact h

def okOper (D : Nat) (ops : Array Oper) (o : Oper) : Bool :=
  o.op.operands.toList.all (opr D) && match o.guard with
  | none => true
  | some g => match (ops[g.1]?).bind (·.dst) with
    | some t => !D.testBit t
    | none => true
def okOps (ops : Array Oper) : List Oper → Nat → Option Nat
  | [], D => some D
  | o :: rest, D => match okOper D ops o with
    | true => okOps ops rest (wipe D o.dst)
    | false => none

/-- The slots that are still dead behind a text that looks at none of them; none: it looks at one. -/
def okC : Code → Nat → Option Nat
  | .skip, D => some D
  | .label _, D => some D
  | .region _ ops _, D => okOps ops ops.toList D
  | .seq x y, D => match okC x D with
    | some D1 => match okC y D1 with
      | some D2 => some D2
      | none => none
    | none => none
  | .cond c x y, D => match opr D c with
    | true => match okC x D, okC y D with
      | some D1, some D2 => some (D1 ||| D2)
      | _, _ => none
    | false => none
  | .block _ x, D => match okC x D with
    | some _ => some D
    | none => none
  | .loop x, D => match okC x D with
    | some _ => some D
    | none => none
  | .exit _, _ => some 0
  | .ret, _ => some 0
  | _, _ => none

section
variable {P : Program} {G : List Nat} {call : CallF} {R : Type}

theorem Agree.mono {D D' : Nat} {A A' : List Value} (h : Agree D A A') (hm : ∀ t, D'.testBit t = false → D.testBit t = false) : Agree D' A A' := ⟨h.1, fun t ht => h.2 t (hm t ht)⟩
theorem Agree.ev {D : Nat} {A A' : List Value} (h : Agree D A A') {x : Operand} (hx : opr D x = true) : aEv A x = aEv A' x := by
  cases x with
  | tmp t => simp only [opr, Bool.not_eq_true'] at hx; simp only [aEv]; rw [h.2 t hx]
  | _ => rfl
theorem Agree.put {D : Nat} {A A' : List Value} (h : Agree D A A') (d : Option Tmp) (v : Value) : Agree (wipe D d) (aPut A d v) (aPut A' d v) := by
  refine ⟨by rw [aPut_length, aPut_length, h.1], fun t ht => ?_⟩
  by_cases hd : d = some t
  · subst hd; rw [aPut_eq, aPut_eq, h.1]
  · rw [aPut_ne hd, aPut_ne hd]; exact h.2 t (wipe_ne ht hd)

theorem okOps_le {ops : Array Oper} : ∀ {l : List Oper} {D D' : Nat}, okOps ops l D = some D' → ∀ t, D.testBit t = false → D'.testBit t = false := by
  intro l
  induction l with
  | nil => intro D D' h t ht; simp only [okOps] at h; cases h; exact ht
  | cons o l ih =>
    intro D D' h t ht
    simp only [okOps] at h
    split at h
    · exact ih h t (wipe_le ht)
    · cases h
theorem okC_le : ∀ {c : Code} {D D' : Nat}, okC c D = some D' → ∀ t, D.testBit t = false → D'.testBit t = false := by
  intro c
  induction c with
  | skip => intro D D' h t ht; simp only [okC] at h; cases h; exact ht
  | label l => intro D D' h t ht; simp only [okC] at h; cases h; exact ht
  | region id ops draw => intro D D' h; simp only [okC] at h; exact okOps_le h
  | seq x y ihx ihy =>
    intro D D' h t ht
    simp only [okC] at h
    split at h
    · rename_i D1 h1
      split at h
      · rename_i D2 h2; cases h; exact ihy h2 t (ihx h1 t ht)
      · cases h
    · cases h
  | cond c x y ihx ihy =>
    intro D D' h t ht
    simp only [okC] at h
    split at h
    · split at h
      · rename_i D1 D2 h1 h2; cases h
        rw [Nat.testBit_or, ihx h1 t ht, ihy h2 t ht]; rfl
      · cases h
    · cases h
  | block id x ih => intro D D' h t ht; simp only [okC] at h; split at h <;> cases h; exact ht
  | loop x ih => intro D D' h t ht; simp only [okC] at h; split at h <;> cases h; exact ht
  | exit id => intro D D' h t ht; simp only [okC] at h; cases h; simp
  | ret => intro D D' h t ht; simp only [okC] at h; cases h; simp
  | rangeFunc => intro D D' h; simp [okC] at h
  | scope => intro D D' h; simp [okC] at h
  | goto => intro D D' h; simp [okC] at h
  | refuse => intro D D' h; simp [okC] at h

/-- Both come to nothing, or to lists that are alike, and one heap. -/
inductive Both (D : Nat) : Option (List Value × AH) → Option (List Value × AH) → Prop
  | no : Both D none none
  | yes {A A' : List Value} (H : AH) (h : Agree D A A') : Both D (some (A, H)) (some (A', H))

theorem step_both {ops : Array Oper} {o : Oper} {D : Nat} (ho : okOper D ops o = true) {A A' : List Value} (h : Agree D A A') (H : AH) : Both (wipe D o.dst) (aStep P G call ops o A H) (aStep P G call ops o A' H) := by
  unfold okOper at ho
  simp only [Bool.and_eq_true] at ho
  have hev : ∀ x ∈ o.op.operands.toList, aEv A x = aEv A' x := fun x hx => h.ev (List.all_eq_true.1 ho.1 x hx)
  have hw : Region.wanted o (aYield ops A) = Region.wanted o (aYield ops A') := by
    unfold Region.wanted
    cases hg : o.guard with
    | none => rfl
    | some g =>
      obtain ⟨g, want⟩ := g
      rw [hg] at ho
      have hy : aYield ops A g = aYield ops A' g := by
        unfold aYield
        cases hd : (ops[g]?).bind (·.dst) with
        | none => rfl
        | some t =>
          have h2 := ho.2
          simp only [hd, Bool.not_eq_true'] at h2
          simp only [Option.bind_some]
          rw [h.2 t h2]
      simp only [hy]
  unfold aStep
  rw [hw, aOp_congr hev H]
  split
  · split
    · cases aOp P call (aEv A') o H with
      | none => exact .no
      | some r => exact .yes r.2 (h.put o.dst r.1)
    · exact .yes H (h.put o.dst undef)
  · exact .no

theorem ops_both {ops : Array Oper} : ∀ {l : List Oper} {D D' : Nat}, okOps ops l D = some D' → ∀ {A A' : List Value}, Agree D A A' → ∀ H, Both D' (aOps P G call ops l A H) (aOps P G call ops l A' H) := by
  intro l
  induction l with
  | nil => intro D D' h A A' hA H; simp only [okOps] at h; cases h; exact .yes H hA
  | cons o l ih =>
    intro D D' h A A' hA H
    simp only [okOps] at h
    split at h
    · rename_i ho
      simp only [aOps]
      have := step_both (P := P) (G := G) (call := call) ho hA H
      generalize aStep P G call ops o A H = x at this
      generalize aStep P G call ops o A' H = y at this
      cases this with
      | no => exact .no
      | yes H1 hA1 => exact ih h hA1 H1
    · cases h

theorem okOps_take {ops : Array Oper} : ∀ {l : List Oper} {D D' : Nat}, okOps ops l D = some D' → ∀ i, ∃ Di, okOps ops (l.take i) D = some Di ∧ ∀ o, l[i]? = some o → okOper Di ops o = true := by
  intro l
  induction l with
  | nil => intro D D' h i; exact ⟨D, by cases i <;> rfl, fun o ho => by simp at ho⟩
  | cons o l ih =>
    intro D D' h i
    simp only [okOps] at h
    split at h
    · rename_i ho
      cases i with
      | zero => exact ⟨D, rfl, fun o' ho' => by simp at ho'; subst ho'; exact ho⟩
      | succ i =>
        obtain ⟨Di, h1, h2⟩ := ih h i
        refine ⟨Di, ?_, fun o' ho' => h2 o' (by simpa using ho')⟩
        simp only [List.take_succ_cons, okOps, ho]
        exact h1
    · cases h

theorem draw_both {ops : Array Oper} {D D' : Nat} (h : okOps ops ops.toList D = some D') {A A' : List Value} (hA : Agree D A A') (H : AH) : Both D' (aDraw P G call ops A H) (aDraw P G call ops A' H) := by
  unfold aDraw
  split
  · exact .no
  · split
    · exact ops_both h hA H
    · rename_i p ps hp
      have hb := ops_both (P := P) (G := G) (call := call) h hA H
      have key : aOps P G call ops ops.toList A H ≠ none → ((∀ q ∈ p :: ps, lookOK P (stA P G call ops A H) ops q) ↔ ∀ q ∈ p :: ps, lookOK P (stA P G call ops A' H) ops q) := by
        intro hne
        have hst : ∀ i, ∃ Di, Agree Di (stA P G call ops A H i).1 (stA P G call ops A' H i).1 ∧ (stA P G call ops A H i).2 = (stA P G call ops A' H i).2 ∧ ∀ o, ops[i]? = some o → okOper Di ops o = true := by
          intro i
          obtain ⟨Di, h1, h2⟩ := okOps_take h i
          have hbi := ops_both (P := P) (G := G) (call := call) h1 hA H
          cases hx : aOps P G call ops ops.toList A H with
          | none => exact absurd hx hne
          | some r =>
            have h3 := stA_take hx i
            rw [h3] at hbi
            unfold stA at hbi ⊢
            rw [h3] at hbi ⊢
            generalize aOps P G call ops (ops.toList.take i) A' H = y at hbi
            simp only [Option.getD_some] at hbi ⊢
            generalize hz : stA P G call ops A H i = z at hbi
            unfold stA at hz
            rw [h3] at hz
            simp only [Option.getD_some] at hz
            cases hbi with
            | yes H1 hA1 =>
              exact ⟨Di, hA1, rfl, fun o ho => h2 o (by simpa using ho)⟩
        have one : ∀ q, lookOK P (stA P G call ops A H) ops q ↔ lookOK P (stA P G call ops A' H) ops q := by
          intro q
          unfold lookOK
          obtain ⟨D1, a1, e1, o1⟩ := hst q.1
          obtain ⟨D2, a2, e2, o2⟩ := hst (if q.2 < q.1 then q.2 else q.2 + 1)
          constructor
          · intro hl o ho
            have hev : ∀ x ∈ o.op.operands.toList, aEv (stA P G call ops A H q.1).1 x = aEv (stA P G call ops A' H q.1).1 x := fun x hx => a1.ev (by
              have := o1 o ho
              unfold okOper at this
              simp only [Bool.and_eq_true] at this
              exact List.all_eq_true.1 this.1 x hx)
            have := hl o ho
            rw [aRd_congr hev, aRd_congr hev, e1, e2] at this
            exact this
          · intro hl o ho
            have hev : ∀ x ∈ o.op.operands.toList, aEv (stA P G call ops A H q.1).1 x = aEv (stA P G call ops A' H q.1).1 x := fun x hx => a1.ev (by
              have := o1 o ho
              unfold okOper at this
              simp only [Bool.and_eq_true] at this
              exact List.all_eq_true.1 this.1 x hx)
            rw [aRd_congr hev, aRd_congr hev, e1, e2]
            exact hl o ho
        exact ⟨fun hl q hq => (one q).1 (hl q hq), fun hl q hq => (one q).2 (hl q hq)⟩
      have hn : aOps P G call ops ops.toList A H = none → aOps P G call ops ops.toList A' H = none := by
        intro e; rw [e] at hb; generalize aOps P G call ops ops.toList A' H = y at hb; cases hb; rfl
      by_cases hne : aOps P G call ops ops.toList A H = none
      · rw [hne, hn hne]
        unfold chk
        have : ∀ (c : Prop) [Decidable c], (if c then (none : Option (List Value × AH)) else none) = none := fun c _ => by split <;> rfl
        rw [this, this]; exact .no
      · unfold chk
        by_cases hc : ∀ q ∈ p :: ps, lookOK P (stA P G call ops A H) ops q
        · rw [if_pos hc, if_pos ((key hne).1 hc)]; exact hb
        · rw [if_neg hc, if_neg (fun h => hc ((key hne).2 h))]; exact .no

/-- Both come to nothing, or both the same way out, with lists that are alike. -/
inductive BothR (D D' : Nat) : Option AR → Option AR → Prop
  | no : BothR D D' none none
  | normal {A A' : List Value} (H : AH) (h : Agree D' A A') : BothR D D' (some (.normal, A, H)) (some (.normal, A', H))
  | exit (i : Nat) {A A' : List Value} (H : AH) (h : Agree D A A') : BothR D D' (some (.exit i, A, H)) (some (.exit i, A', H))
  | ret {A A' : List Value} (H : AH) (h : Agree D A A') : BothR D D' (some (.ret, A, H)) (some (.ret, A', H))

theorem code_both : ∀ {c : Code} {D D' : Nat}, okC c D = some D' → ∀ {A A' : List Value}, Agree D A A' → ∀ H, BothR D D' (aCode P G call c A H) (aCode P G call c A' H) := by
  intro c
  induction c with
  | skip => intro D D' h A A' hA H; simp only [okC] at h; cases h; exact .normal H hA
  | label l => intro D D' h A A' hA H; simp only [okC] at h; cases h; exact .normal H hA
  | exit id => intro D D' h A A' hA H; exact .exit id H hA
  | ret => intro D D' h A A' hA H; exact .ret H hA
  | region id ops draw =>
    intro D D' h A A' hA H
    simp only [okC] at h
    simp only [aCode]
    have hb : Both D' (aRegion P G call ops draw A H) (aRegion P G call ops draw A' H) := by
      cases draw with
      | true => exact draw_both h hA H
      | false => exact ops_both h hA H
    generalize aRegion P G call ops draw A H = x at hb
    generalize aRegion P G call ops draw A' H = y at hb
    cases hb with
    | no => exact .no
    | yes H1 hA1 => exact .normal H1 hA1
  | seq x y ihx ihy =>
    intro D D' h A A' hA H
    simp only [okC] at h
    split at h
    · rename_i D1 h1
      split at h
      · rename_i D2 h2
        cases h
        simp only [aCode]
        have hb := ihx h1 hA H
        generalize aCode P G call x A H = u at hb
        generalize aCode P G call x A' H = v at hb
        cases hb with
        | no => exact .no
        | normal H1 hA1 =>
          have hb2 := ihy h2 hA1 H1
          simp only [Option.bind_some]
          rename_i A1 A1'
          generalize aCode P G call y A1 H1 = u at hb2
          generalize aCode P G call y A1' H1 = v at hb2
          cases hb2 with
          | no => exact .no
          | normal H2 hA2 => exact .normal H2 hA2
          | exit i H2 hA2 => exact .exit i H2 (hA2.mono (fun t ht => okC_le h1 t ht))
          | ret H2 hA2 => exact .ret H2 (hA2.mono (fun t ht => okC_le h1 t ht))
        | exit i H1 hA1 => exact .exit i H1 hA1
        | ret H1 hA1 => exact .ret H1 hA1
      · cases h
    · cases h
  | cond c x y ihx ihy =>
    intro D D' h A A' hA H
    simp only [okC] at h
    split at h
    · rename_i hc
      split at h
      · rename_i D1 D2 h1 h2
        cases h
        simp only [aCode]
        rw [hA.ev hc]
        have m1 : ∀ t, (D1 ||| D2).testBit t = false → D1.testBit t = false := fun t ht => by rw [Nat.testBit_or, Bool.or_eq_false_iff] at ht; exact ht.1
        have m2 : ∀ t, (D1 ||| D2).testBit t = false → D2.testBit t = false := fun t ht => by rw [Nat.testBit_or, Bool.or_eq_false_iff] at ht; exact ht.2
        generalize aEv A' c = v
        cases v with
        | bool b =>
          cases b with
          | true =>
            have hb := ihx h1 hA H
            simp only
            generalize aCode P G call x A H = u at hb
            generalize aCode P G call x A' H = v at hb
            cases hb with
            | no => exact .no
            | normal H1 hA1 => exact .normal H1 (hA1.mono m1)
            | exit i H1 hA1 => exact .exit i H1 hA1
            | ret H1 hA1 => exact .ret H1 hA1
          | false =>
            have hb := ihy h2 hA H
            simp only
            generalize aCode P G call y A H = u at hb
            generalize aCode P G call y A' H = v at hb
            cases hb with
            | no => exact .no
            | normal H1 hA1 => exact .normal H1 (hA1.mono m2)
            | exit i H1 hA1 => exact .exit i H1 hA1
            | ret H1 hA1 => exact .ret H1 hA1
        | _ => exact .no
      · cases h
    · cases h
  | block id x ih =>
    intro D D' h A A' hA H
    simp only [okC] at h
    split at h <;> cases h
    rename_i D1 h1
    simp only [aCode]
    have hb := ih h1 hA H
    generalize aCode P G call x A H = u at hb
    generalize aCode P G call x A' H = v at hb
    cases hb with
    | no => exact .no
    | normal H1 hA1 => exact .normal H1 (hA1.mono (fun t ht => okC_le h1 t ht))
    | exit i H1 hA1 =>
      simp only [Option.map_some]
      split
      · exact .normal H1 hA1
      · exact .exit i H1 hA1
    | ret H1 hA1 => exact .ret H1 hA1
  | loop x ih =>
    intro D D' h A A' hA H
    simp only [okC] at h
    split at h <;> cases h
    rename_i D1 h1
    simp only [aCode]
    have it : ∀ n {A A' : List Value} (H : AH), Agree D A A' → BothR D D (aIter (aCode P G call x) n A H) (aIter (aCode P G call x) n A' H) := by
      intro n
      induction n with
      | zero => intro A A' H _; exact .no
      | succ n ihn =>
        intro A A' H hA
        simp only [aIter]
        have hb := ih h1 hA H
        generalize aCode P G call x A H = u at hb
        generalize aCode P G call x A' H = v at hb
        cases hb with
        | no => exact .no
        | normal H1 hA1 => exact ihn H1 (hA1.mono (fun t ht => okC_le h1 t ht))
        | exit i H1 hA1 => exact .exit i H1 hA1
        | ret H1 hA1 => exact .ret H1 hA1
    cases hl : aLoop (aCode P G call x) A H with
    | some r =>
      obtain ⟨n, hn⟩ := aLoop_iff.1 hl
      have hb := it n H hA
      rw [hn] at hb
      cases hm : aIter (aCode P G call x) n A' H with
      | none => rw [hm] at hb; cases hb
      | some r' =>
        rw [aLoop_iff.2 ⟨n, hm⟩]
        rw [hm] at hb
        exact hb
    | none =>
      cases hl' : aLoop (aCode P G call x) A' H with
      | none => exact .no
      | some r' =>
        obtain ⟨n, hn⟩ := aLoop_iff.1 hl'
        have hb := it n H hA
        rw [hn] at hb
        cases hm : aIter (aCode P G call x) n A H with
        | none => rw [hm] at hb; cases hb
        | some r => rw [aLoop_iff.2 ⟨n, hm⟩] at hl; cases hl
  | rangeFunc => intro D D' h; simp [okC] at h
  | scope => intro D D' h; simp [okC] at h
  | goto => intro D D' h; simp [okC] at h
  | refuse => intro D D' h; simp [okC] at h

/-- Dead for what comes behind, dead ahead of the text that does not look at them. -/
def subB (D D' : Nat) : Bool := D ||| D' == D'
theorem subB_le {D D' : Nat} (h : subB D D' = true) : ∀ t, D'.testBit t = false → D.testBit t = false := by
  intro t ht
  unfold subB at h
  have e : D ||| D' = D' := by simpa using h
  rw [← e, Nat.testBit_or, Bool.or_eq_false_iff] at ht
  exact ht.1
theorem Resp.le {D D' : Nat} {k : List Value → AH → Option R} (h : Resp D' k) (hs : subB D D' = true) : Resp D k := fun A A' H hA => h A A' H (hA.mono (subB_le hs))

def okInto (c : Code) (D D' : Nat) : Bool := match okC c D with
  | some D1 => subB D1 D'
  | none => false

theorem resp_code {c : Code} {D D' : Nat} {kn : List Value → AH → Option R} {kx : Nat → List Value → AH → Option R} {kr : List Value → AH → Option R} (h : okInto c D D' = true) (hn : Resp D' kn) (hx : ∀ i, Resp D (kx i)) (hr : Resp D kr) :
    Resp D (fun A H => cCode P G call c A H kn kx kr) := by
  intro A A' H hA
  unfold okInto at h
  split at h
  · rename_i D1 h1
    simp only
    rw [cCode_eq, cCode_eq]
    have hb := code_both (P := P) (G := G) (call := call) h1 hA H
    generalize aCode P G call c A H = u at hb
    generalize aCode P G call c A' H = v at hb
    cases hb with
    | no => rfl
    | normal H1 hA1 => exact hn _ _ H1 (hA1.mono (subB_le h))
    | exit i H1 hA1 => exact hx i _ _ H1 hA1
    | ret H1 hA1 => exact hr _ _ H1 hA1
  · cases h

theorem resp_loop {c : Code} {D : Nat} {kx : Nat → List Value → AH → Option R} {kr : List Value → AH → Option R} (h : okInto c D D = true) (hx : ∀ i, Resp D (kx i)) (hr : Resp D kr) :
    Resp D (fun A H => cLoop P G call c A H kx kr) := by
  intro A A' H hA
  unfold okInto at h
  split at h
  · rename_i D1 h1
    have hb := code_both (P := P) (G := G) (call := call) (c := .loop c) (D := D) (D' := D) (by simp only [okC, h1]) hA H
    simp only [aCode] at hb
    simp only [cLoop]
    generalize aLoop (aCode P G call c) A H = u at hb
    generalize aLoop (aCode P G call c) A' H = v at hb
    cases hb with
    | no => rfl
    | normal H1 hA1 => rfl
    | exit i H1 hA1 => exact hx i _ _ H1 hA1
    | ret H1 hA1 => exact hr _ _ H1 hA1
  · cases h

def okRes (D : Nat) (rs : List ResultVar) : Bool := rs.all fun r => match r with
  | .tmp t => !D.testBit t
  | .cell a _ => !D.testBit a
theorem resp_many {D : Nat} : ∀ {rs : List ResultVar} (_ : okRes D rs = true) (k : List Value → AH → Option R), Resp D (fun A H => cMany P A H rs fun vs => k vs H) := by
  intro rs
  induction rs with
  | nil => intro _ k A A' H hA; rfl
  | cons r rs ih =>
    intro h k A A' H hA
    unfold okRes at h
    simp only [List.all_cons, Bool.and_eq_true] at h
    cases r with
    | tmp t =>
      simp only [Bool.not_eq_true'] at h
      simp only [cMany]
      rw [hA.2 t h.1]
      exact ih h.2 (fun vs H => k ((A'[t]?.getD undef) :: vs) H) A A' H hA
    | cell a t =>
      simp only [Bool.not_eq_true'] at h
      simp only [cMany]
      rw [hA.2 a h.1, tb_eq, tb_eq]
      congr 1
      funext g
      cases g <;> (simp only; congr 1; funext v; exact ih h.2 (fun vs H => k (v :: vs) H) A A' H hA)
theorem resp_fin {D : Nat} {rs : List ResultVar} (h : okRes D rs = true) : Resp D (cFin P rs) := resp_many h fun vs H => some (tup vs, H)
theorem resp_none {D : Nat} : Resp D (fun (_ : List Value) (_ : AH) => (none : Option R)) := fun _ _ _ _ => rfl
theorem resp_block {D id : Nat} {kn : List Value → AH → Option R} {kx : Nat → List Value → AH → Option R} (hn : Resp D kn) (hx : ∀ i, Resp D (kx i)) : ∀ i, Resp D (fun A H => if i = id then kn A H else kx i A H) := by
  intro i A A' H hA
  simp only
  split
  · exact hn _ _ _ hA
  · exact hx i _ _ _ hA

theorem resp_clear {D : Nat} {n : List Value → AH → Option R} (h : Resp D n) : Resp D (fun A H => n (clear D A) H) := by
  intro A A' H hA
  simp only
  rw [← h A (clear D A) H (clear_agree D A), ← h A' (clear D A') H (clear_agree D A')]
  exact h A A' H hA
theorem exit_here {id : Nat} {n : Nat → List Value → AH → Option R} {kn : List Value → AH → Option R} {kx : Nat → List Value → AH → Option R} {A : List Value} {H : AH} (hn : n = fun i A H => if i = id then kn A H else kx i A H) : n id A H = kn A H := by
  subst hn; simp
theorem exit_on {id i : Nat} {n : Nat → List Value → AH → Option R} {kn : List Value → AH → Option R} {kx : Nat → List Value → AH → Option R} {A : List Value} {H : AH} (hn : n = fun i A H => if i = id then kn A H else kx i A H) (h : (i == id) = false) : n i A H = kx i A H := by
  subst hn
  have : ¬ i = id := by simpa using h
  simp [this]

/-! ### The parts of a text, one by one -/
variable {A : List Value} {H : AH} {kn : List Value → AH → Option R} {kx : Nat → List Value → AH → Option R} {kr : List Value → AH → Option R}
theorem seq_at {c x y : Code} (h : c = .seq x y) : cCode P G call c A H kn kx kr = cCode P G call x A H (fun A H => cCode P G call y A H kn kx kr) kx kr := by subst h; rfl
theorem seq_clear {c x y : Code} (h : c = .seq x y) {D : Nat} {n : List Value → AH → Option R} (hn : n = fun A H => cCode P G call y A H kn kx kr) (hD : Resp D n) :
    cCode P G call c A H kn kx kr = cCode P G call x A H (fun A H => n (clear D A) H) kx kr := by
  subst h
  have e : (fun A H => n (clear D A) H) = n := by
    funext A H
    exact (hD A (clear D A) H (clear_agree D A)).symm
  rw [e, hn]; try rfl
theorem cond_at {c x y : Code} {e : Operand} (h : c = .cond e x y) : cCode P G call c A H kn kx kr = condK (aEv A e) (cCode P G call x A H kn kx kr) (cCode P G call y A H kn kx kr) := by subst h; rfl
theorem block_at {c x : Code} {id : Nat} (h : c = .block id x) : cCode P G call c A H kn kx kr = cCode P G call x A H kn (fun i A H => if i = id then kn A H else kx i A H) kr := by subst h; rfl
theorem block_clear {c x : Code} {id : Nat} (h : c = .block id x) {D : Nat} {n : Nat → List Value → AH → Option R} (hn : n = fun i A H => if i = id then kn A H else kx i A H) (hD : ∀ i, Resp D (n i)) :
    cCode P G call c A H kn kx kr = cCode P G call x A H kn (fun i A H => n i (clear D A) H) kr := by
  subst h
  have e : (fun i A H => n i (clear D A) H) = n := by
    funext i A H
    exact (hD i A (clear D A) H (clear_agree D A)).symm
  rw [e, hn]; try rfl
theorem loop_at {c x : Code} (h : c = .loop x) : cCode P G call c A H kn kx kr = cLoop P G call x A H kx kr := by subst h; rfl
theorem loop_slots {x : Code} {D : Nat} {n : List Value → AH → Option R} (hn : n = fun A H => cLoop P G call x A H kx kr) (hD : Resp D n) : cLoop P G call x A H kx kr = n (clear D A) H := by
  have := hD A (clear D A) H (clear_agree D A)
  rw [← this, hn]
theorem loop_clear {x : Code} {D : Nat} {n : List Value → AH → Option R} (hn : n = fun A H => cLoop P G call x A H kx kr) (hD : Resp D n) :
    cLoop P G call x A H kx kr = cCode P G call x A H (fun A H => n (clear D A) H) kx kr := by
  have e : (fun A H => n (clear D A) H) = n := by
    funext A H
    exact (hD A (clear D A) H (clear_agree D A)).symm
  rw [e, hn]; exact cLoop_eq ..

/-! ### The same, from a name to what is printed of it -/
/-- The first statements of a text, and the others. -/
def Code.pre : Nat → Code → Code
  | 0, .seq x _ => x
  | k + 1, .seq x y => .seq x (Code.pre k y)
  | _, c => c
def Code.post : Nat → Code → Code
  | 0, .seq _ y => y
  | k + 1, .seq _ y => Code.post k y
  | _, _ => .skip
theorem pre_at : ∀ (k : Nat) (c : Code) (A : List Value) (H : AH), cCode P G call c A H kn kx kr = cCode P G call (Code.pre k c) A H (fun A H => cCode P G call (Code.post k c) A H kn kx kr) kx kr := by
  intro k
  induction k with
  | zero => intro c A H; cases c <;> rfl
  | succ k ih =>
    intro c A H
    cases c with
    | seq x y =>
      have e : (fun A H => cCode P G call y A H kn kx kr) = fun A H => cCode P G call (Code.pre k y) A H (fun A H => cCode P G call (Code.post k y) A H kn kx kr) kx kr := by
        funext A H; exact ih y A H
      show cCode P G call x A H (fun A H => cCode P G call y A H kn kx kr) kx kr = _
      rw [e]; rfl
    | _ => rfl
variable {l T : Option R}
theorem pre_to {c : Code} {k D : Nat} {n : List Value → AH → Option R} (h0 : l = cCode P G call c A H kn kx kr) (hn : n = fun A H => cCode P G call (Code.post k c) A H kn kx kr) (hD : Resp D n)
    (h1 : cCode P G call (Code.pre k c) A H (fun A H => n (clear D A) H) kx kr = T) : l = T := by
  have e : (fun A H => n (clear D A) H) = n := by
    funext A H
    exact (hD A (clear D A) H (clear_agree D A)).symm
  rw [e, hn] at h1
  exact h0.trans ((pre_at k c A H).trans h1)
theorem condK_to {v v' : Value} {x x' y y' : Option R} (h : v = v') (hx : x = x') (hy : y = y') : condK v x y = condK v' x' y' := by rw [h, hx, hy]
theorem cond_to {c x y : Code} {e : Operand} (h0 : l = cCode P G call c A H kn kx kr) (h : c = .cond e x y) (h1 : condK (aEv A e) (cCode P G call x A H kn kx kr) (cCode P G call y A H kn kx kr) = T) : l = T := h0.trans ((cond_at h).trans h1)
theorem block_to {c x : Code} {id D : Nat} {n : Nat → List Value → AH → Option R} (h0 : l = cCode P G call c A H kn kx kr) (h : c = .block id x) (hn : n = fun i A H => if i = id then kn A H else kx i A H) (hD : ∀ i, Resp D (n i))
    (h1 : cCode P G call x A H kn (fun i A H => n i (clear D A) H) kr = T) : l = T := h0.trans ((block_clear h hn hD).trans h1)
theorem loop_in {c x : Code} {D : Nat} {n : List Value → AH → Option R} (h0 : l = cCode P G call c A H kn kx kr) (h : c = .loop x) (hn : n = fun A H => cLoop P G call x A H kx kr) (hD : Resp D n) (h1 : n (clear D A) H = T) : l = T :=
  h0.trans ((loop_at h).trans ((loop_slots hn hD).trans h1))
theorem loop_to {x : Code} {D : Nat} {n : List Value → AH → Option R} (h0 : l = cLoop P G call x A H kx kr) (hn : n = fun A H => cLoop P G call x A H kx kr) (hD : Resp D n)
    (h1 : cCode P G call x A H (fun A H => n (clear D A) H) kx kr = T) : l = T := h0.trans ((loop_clear hn hD).trans h1)
theorem here_to {id : Nat} {n : Nat → List Value → AH → Option R} (h0 : l = n id A H) (hn : n = fun i A H => if i = id then kn A H else kx i A H) (h1 : kn A H = T) : l = T := h0.trans ((exit_here hn).trans h1)
theorem on_to {id i : Nat} {n : Nat → List Value → AH → Option R} (h0 : l = n i A H) (hn : n = fun i A H => if i = id then kn A H else kx i A H) (h : (i == id) = false) (h1 : kx i A H = T) : l = T := h0.trans ((exit_on hn h).trans h1)
end
abbrev OV := Option (Value × AH)
abbrev u : Value := undef

/-! ### What the printed texts are made of -/
abbrev KK := List Value → AH → OV
abbrev KX := Nat → List Value → AH → OV
noncomputable abbrev CK (P : Program) (G : List Nat) (call : CallF) (c : Code) (kn : KK) (kx : KX) (kr : KK) : KK := fun A H => cCode P G call c A H kn kx kr
noncomputable abbrev CL (P : Program) (G : List Nat) (call : CallF) (c : Code) (kx : KX) (kr : KK) : KK := fun A H => cLoop P G call c A H kx kr
abbrev BX (id : Nat) (kn : KK) (kx : KX) : KX := fun i A H => if i = id then kn A H else kx i A H
abbrev clr (D : Nat) (n : KK) : KK := fun A H => n (clear D A) H
abbrev clx (D : Nat) (n : KX) : KX := fun i A H => n i (clear D A) H
def kx0 : KX := fun _ _ _ => none
def fullD : Nat := 2 ^ 4096 - 1
/-- Slots: these, and so many that nobody has laid. -/
def ls (l : List Value) (n : Nat) : List Value := l ++ List.replicate n u
section
variable {P : Program} {G : List Nat} {call : CallF} {A : List Value} {H : AH} {kn : KK} {kx : KX} {kr : KK} {l T : OV}
theorem kx0_d : ∀ i, Resp fullD (kx0 i) := fun _ => resp_none
theorem rf {rs : List ResultVar} {D : Nat} (h : okRes D rs = true := by kernel_rfl) : Resp D (cFin P rs) := resp_fin h
theorem rc {c : Code} {D Dn Dx Dr : Nat} (hn : Resp Dn kn) (hx : ∀ i, Resp Dx (kx i)) (hr : Resp Dr kr) (h : (okInto c D Dn && (subB D Dx && subB D Dr)) = true := by kernel_rfl) : Resp D (CK P G call c kn kx kr) := by
  simp only [Bool.and_eq_true] at h
  exact resp_code h.1 hn (fun i => (hx i).le h.2.1) (hr.le h.2.2)
theorem rl {c : Code} {D Dx Dr : Nat} (hx : ∀ i, Resp Dx (kx i)) (hr : Resp Dr kr) (h : (okInto c D D && (subB D Dx && subB D Dr)) = true := by kernel_rfl) : Resp D (CL P G call c kx kr) := by
  simp only [Bool.and_eq_true] at h
  exact resp_loop h.1 (fun i => (hx i).le h.2.1) (hr.le h.2.2)
theorem rb {D id Dn Dx : Nat} (hn : Resp Dn kn) (hx : ∀ i, Resp Dx (kx i)) (h : (subB D Dn && subB D Dx) = true := by kernel_rfl) : ∀ i, Resp D (BX id kn kx i) := by
  simp only [Bool.and_eq_true] at h
  exact resp_block (hn.le h.1) (fun i => (hx i).le h.2)
theorem cd {D : Nat} {n : KK} (h : Resp D n) : Resp D (clr D n) := resp_clear h
theorem cx {D : Nat} {n : KX} (h : ∀ i, Resp D (n i)) : ∀ i, Resp D (clx D n i) := fun i => resp_clear (h i)
theorem pt {c : Code} {D : Nat} {n : KK} (h0 : l = cCode P G call c A H kn kx kr) (k : Nat) (hD : Resp D n) (h1 : cCode P G call (Code.pre k c) A H (clr D n) kx kr = T)
    (hn : n = fun A H => cCode P G call (Code.post k c) A H kn kx kr := by kernel_rfl) : l = T := pre_to h0 hn hD h1
theorem ct {c : Code} (h0 : l = cCode P G call c A H kn kx kr) (x y : Code) (e : Operand) {v : Value} {X Y : OV} (hx : cCode P G call x A H kn kx kr = X) (hy : cCode P G call y A H kn kx kr = Y)
    (h : c = .cond e x y := by kernel_rfl) (he : aEv A e = v := by kernel_rfl) : l = condK v X Y := cond_to h0 h (condK_to he hx hy)
theorem bt {c : Code} {D : Nat} {n : KX} (h0 : l = cCode P G call c A H kn kx kr) (x : Code) (id : Nat) (hD : ∀ i, Resp D (n i)) (h1 : cCode P G call x A H kn (clx D n) kr = T)
    (h : c = .block id x := by kernel_rfl) (hn : n = fun i A H => if i = id then kn A H else kx i A H := by kernel_rfl) : l = T := block_to h0 h hn hD h1
theorem li {c : Code} {D : Nat} {n : KK} (h0 : l = cCode P G call c A H kn kx kr) (x : Code) (hD : Resp D n) (h1 : n (clear D A) H = T) (h : c = .loop x := by kernel_rfl)
    (hn : n = fun A H => cLoop P G call x A H kx kr := by kernel_rfl) : l = T := loop_in h0 h hn hD h1
theorem lt' {x : Code} {D : Nat} {n : KK} (h0 : l = cLoop P G call x A H kx kr) (hD : Resp D n) (h1 : cCode P G call x A H (clr D n) kx kr = T)
    (hn : n = fun A H => cLoop P G call x A H kx kr := by kernel_rfl) : l = T := loop_to h0 hn hD h1
theorem ht' {id : Nat} (h0 : l = BX id kn kx id A H) (h1 : kn A H = T) : l = T := by rw [h0, ← h1]; simp [BX]
theorem ot' {id i : Nat} (h0 : l = BX id kn kx i A H) (h1 : kx i A H = T) (h : (i == id) = false := by kernel_rfl) : l = T := by
  rw [h0, ← h1]
  have : ¬ i = id := by simpa using h
  simp [BX, this]
/-- A function that comes to this. -/
theorem fo {f : Nat} {fn : Func} (hf : P.funcs[f]? = some fn) {args : List Value} {t : OV} {r : Value × AH} (e : cBody P G (aF P G) fn.ntmps fn.results.toList (bodyOf fn) args H = t) (h : t = some r)
    (hb : fn.body.isSome = true := by kernel_rfl) (hn : (fn.name == "runtime.NumGoroutine") = false := by kernel_rfl) (hd : dshape (bodyOf fn) = none := by kernel_rfl) : aF P G f args H = some r := aF_of_body hf hb hn hd (e.trans h)
end
end Go.Proofs.YtbjelopcelompaaGreatDoor.Gst
