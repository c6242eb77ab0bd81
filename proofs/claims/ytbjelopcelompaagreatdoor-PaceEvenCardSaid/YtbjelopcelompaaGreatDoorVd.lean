/- A heap as a tree, which the kernel reads fast; what the abstract heap's operations do to it. -/
import Derived.Test.YtbjelopcelompaaGreatDoorVc
namespace Go.Proofs.YtbjelopcelompaaGreatDoor.Gst
open Go Go.RowKit
set_option linter.unusedSimpArgs false
set_option linter.unusedVariables false

/-! ### Trees -/
inductive Tr (α : Type) where
  | lf
  | nd (v : Option α) (l r : Tr α)
section
variable {α : Type}
def Tr.get : Tr α → Nat → Option α
  | .lf, _ => none
  | .nd v l r, i => match i with
    | 0 => v
    | i + 1 => match Nat.beq (i % 2) 0 with
      | true => l.get (i / 2)
      | false => r.get (i / 2)
def Tr.set (x : α) : Nat → Tr α → Nat → Option (Tr α)
  | 0, _, _ => none
  | k + 1, t, i => match i with
    | 0 => match t with
      | .lf => some (.nd (some x) .lf .lf)
      | .nd _ l r => some (.nd (some x) l r)
    | i + 1 => match Nat.beq (i % 2) 0 with
      | true => match t with
        | .lf => (Tr.set x k .lf (i / 2)).map fun l' => .nd none l' .lf
        | .nd v l r => (Tr.set x k l (i / 2)).map fun l' => .nd v l' r
      | false => match t with
        | .lf => (Tr.set x k .lf (i / 2)).map fun r' => .nd none .lf r'
        | .nd v l r => (Tr.set x k r (i / 2)).map fun r' => .nd v l r'
theorem Tr.get_set {x : α} : ∀ (k : Nat) {t t' : Tr α} {i : Nat}, Tr.set x k t i = some t' → ∀ j, t'.get j = if j = i then some x else t.get j := by
  intro k
  induction k with
  | zero => intro t t' i h; cases h
  | succ k ih =>
    intro t t' i h j
    cases i with
    | zero =>
      cases t with
      | lf => simp only [Tr.set] at h; cases h; cases j with
        | zero => rfl
        | succ j => simp only [Tr.get]; split <;> simp [Tr.get]
      | nd v l r => simp only [Tr.set] at h; cases h; cases j with
        | zero => rfl
        | succ j => simp [Tr.get]
    | succ i =>
      simp only [Tr.set] at h
      have beq : ∀ a : Nat, Nat.beq a 0 = (a == 0) := fun a => by cases a <;> simp [Nat.beq]
      have lf : ∀ j, (Tr.lf : Tr α).get j = none := fun j => by cases j <;> rfl
      cases hb : Nat.beq (i % 2) 0 with
      | true =>
        have hi : i % 2 = 0 := by rw [beq] at hb; simpa using hb
        rw [hb] at h
        simp only at h
        have key : ∃ v l r l', Tr.set x k l (i / 2) = some l' ∧ t' = .nd v l' r ∧ ∀ j, t.get j = (Tr.nd v l r).get j := by
          cases t with
          | lf => obtain ⟨l', h1, e⟩ := Option.map_eq_some_iff.1 h; exact ⟨none, .lf, .lf, l', h1, e.symm, fun j => by rw [lf]; cases j with | zero => rfl | succ j => simp only [Tr.get]; split <;> rfl⟩
          | nd v l r => obtain ⟨l', h1, e⟩ := Option.map_eq_some_iff.1 h; exact ⟨v, l, r, l', h1, e.symm, fun j => rfl⟩
        obtain ⟨v, l, r, l', h1, rfl, hg⟩ := key
        rw [hg]
        cases j with
        | zero => rfl
        | succ j =>
          simp only [Tr.get]
          cases hj : Nat.beq (j % 2) 0 with
          | true =>
            have hj' : j % 2 = 0 := by rw [beq] at hj; simpa using hj
            simp only
            rw [ih h1]
            by_cases e : j / 2 = i / 2
            · rw [if_pos e, if_pos (by omega)]
            · rw [if_neg e, if_neg (by omega)]
          | false =>
            have hj' : j % 2 ≠ 0 := by rw [beq] at hj; simpa using hj
            simp only
            rw [if_neg (by omega)]
      | false =>
        have hi : i % 2 ≠ 0 := by rw [beq] at hb; simpa using hb
        rw [hb] at h
        simp only at h
        have key : ∃ v l r r', Tr.set x k r (i / 2) = some r' ∧ t' = .nd v l r' ∧ ∀ j, t.get j = (Tr.nd v l r).get j := by
          cases t with
          | lf => obtain ⟨l', h1, e⟩ := Option.map_eq_some_iff.1 h; exact ⟨none, .lf, .lf, l', h1, e.symm, fun j => by rw [lf]; cases j with | zero => rfl | succ j => simp only [Tr.get]; split <;> rfl⟩
          | nd v l r => obtain ⟨l', h1, e⟩ := Option.map_eq_some_iff.1 h; exact ⟨v, l, r, l', h1, e.symm, fun j => rfl⟩
        obtain ⟨v, l, r, l', h1, rfl, hg⟩ := key
        rw [hg]
        cases j with
        | zero => rfl
        | succ j =>
          simp only [Tr.get]
          cases hj : Nat.beq (j % 2) 0 with
          | false =>
            have hj' : j % 2 ≠ 0 := by rw [beq] at hj; simpa using hj
            simp only
            rw [ih h1]
            by_cases e : j / 2 = i / 2
            · rw [if_pos e, if_pos (by omega)]
            · rw [if_neg e, if_neg (by omega)]
          | true =>
            have hj' : j % 2 = 0 := by rw [beq] at hj; simpa using hj
            simp only
            rw [if_neg (by omega)]
end

/-! ### The heap -/
structure EH where
  n : Nat
  t : Tr AObj
def EH.get (E : EH) (b : Nat) : Option AObj := E.t.get b
def EH.set (E : EH) (b : Nat) (o : AObj) : Option EH := (Tr.set o 24 E.t b).map fun t => ⟨E.n, t⟩
def EH.push (E : EH) (o : AObj) : Option EH := (Tr.set o 24 E.t E.n).map fun t => ⟨E.n + 1, t⟩

section
variable (g d : Nat)
def shE (e : MapEntry) : MapEntry := { e with key := shV g d e.key, val := shV g d e.val }
def shO : AObj → AObj
  | .cells ro cs => .cells ro (shL g d cs)
  | .map es c => .map (es.map (shE g d)) c
  | .dead => .dead
/-- The heap, behind the first g blocks d others (which stay), then what the tree has there. -/
structure HR (F : List AObj) (E : EH) (H : AH) : Prop where
  len : F.length = d
  le : g ≤ E.n
  size : H.size = E.n + d
  get : ∀ b, H.get (shB g d b) = (E.get b).map (shO g d)
  out : ∀ b, E.n ≤ b → E.get b = none
  fr : ∀ b, g ≤ b → b < g + d → H.get b = F[b - g]?
end
section
variable {g d : Nat} {F : List AObj} {E E' : EH} {H : AH}
theorem HR.lt (h : HR g d F E H) {b : Nat} {o : AObj} (hb : E.get b = some o) : b < E.n := by
  rcases Nat.lt_or_ge b E.n with h1 | h1
  · exact h1
  · rw [h.out b h1] at hb; cases hb
theorem HR.new (h : HR g d F E H) : H.size = shB g d E.n := by
  unfold shB; rw [if_neg (by have := h.le; omega)]; exact h.size
theorem HR.shlt (h : HR g d F E H) {b : Nat} (hb : b < E.n) : shB g d b < H.size := by
  rw [h.size]; unfold shB; split <;> omega
theorem HR.set (h : HR g d F E H) {b : Nat} {o : AObj} (hb : b < E.n) (hs : E.set b o = some E') : HR g d F E' (H.set (shB g d b) (shO g d o)) := by
  obtain ⟨t, ht, rfl⟩ := Option.map_eq_some_iff.1 hs
  have hg := Tr.get_set 24 ht
  refine ⟨h.len, h.le, by rw [AH.size_set]; exact h.size, fun j => ?_, fun j hj => ?_, fun j h1 h2 => ?_⟩
  · show _ = (t.get j).map _
    rw [hg j, AH.get_set]
    by_cases e : j = b
    · subst e; rw [if_pos rfl, if_pos rfl, if_pos (h.shlt hb)]; rfl
    · rw [if_neg (fun x => e (shB_inj x)), if_neg e]; exact h.get j
  · show t.get j = none
    rw [hg j, if_neg (by have : E.n ≤ j := hj; omega)]; exact h.out j hj
  · rw [AH.get_set_ne (by unfold shB; split <;> omega)]; exact h.fr j h1 h2
theorem HR.push (h : HR g d F E H) {o : AObj} (hs : E.push o = some E') : HR g d F E' (H.push (shO g d o)) := by
  obtain ⟨t, ht, rfl⟩ := Option.map_eq_some_iff.1 hs
  have hg := Tr.get_set 24 ht
  have hle := h.le
  have hsz := h.size
  refine ⟨h.len, by show g ≤ E.n + 1; omega, by rw [AH.size_push, hsz]; show _ = E.n + 1 + d; omega, fun j => ?_, fun j hj => ?_, fun j h1 h2 => ?_⟩
  · show _ = (t.get j).map _
    rw [hg j, AH.get_push, h.new]
    by_cases e : j = E.n
    · subst e; rw [if_pos rfl, if_pos rfl]; rfl
    · rw [if_neg (fun x => e (shB_inj x)), if_neg e]; exact h.get j
  · show t.get j = none
    have : E.n + 1 ≤ j := hj
    rw [hg j, if_neg (by omega)]; exact h.out j (by omega)
  · rw [AH.get_push_old (by omega)]; exact h.fr j h1 h2
theorem EH.push_n {o : AObj} (hs : E.push o = some E') : E'.n = E.n + 1 := by
  obtain ⟨t, ht, rfl⟩ := Option.map_eq_some_iff.1 hs; rfl
end
end Go.Proofs.YtbjelopcelompaaGreatDoor.Gst
