/- Regions: the abstract run takes the order of the text; where the model draws an order, a look shows that no other one tells anything else. -/
import Derived.Test.YtbjelopcelompaaGreatDoorGl
import Derived.Tactics
namespace Go.Proofs.YtbjelopcelompaaGreatDoor.Gst
open Go Go.RowKit
set_option linter.unusedSimpArgs false

def aPut (A : List Value) (d : Option Tmp) (v : Value) : List Value :=
  match d with
  | some d => A.set d v
  | none => A
def aYield (ops : Array Oper) (A : List Value) (j : Nat) : Option Bool :=
  match ((ops[j]?).bind (·.dst)).bind (A[·]?) with
  | some (.bool b) => some b
  | _ => none
def aStep (P : Program) (G : List Nat) (call : CallF) (ops : Array Oper) (o : Oper) (A : List Value) (H : AH) : Option (List Value × AH) :=
  if o.op.operands.toList.all (okX G) = true then
    if Region.wanted o (aYield ops A) = true then (aOp P call (aEv A) o H).map fun r => (aPut A o.dst r.1, r.2) else some (aPut A o.dst undef, H)
  else none
def aOps (P : Program) (G : List Nat) (call : CallF) (ops : Array Oper) : List Oper → List Value → AH → Option (List Value × AH)
  | [], A, H => some (A, H)
  | o :: rest, A, H => (aStep P G call ops o A H).bind fun s => aOps P G call ops rest s.1 s.2

section
variable {P : Program} {w0 : World} {B : Nat} {ρ : Ren} {H : AH} {w : World} {G : List Nat} {call : CallF}

theorem put_rel {A : List Value} {a : Act} (hA : ActRel P ρ A a) (d : Option Tmp) {v v' : Value} (hv : VRel P ρ v v') : ActRel P ρ (aPut A d v) (a.put d v') := by
  cases d with
  | none => exact hA
  | some d => exact ⟨by simpa [Act.put, aPut] using hA.tmps.set d hv, hA.defers⟩

theorem yield_rel {A : List Value} {a : Act} (hA : ActRel P ρ A a) (ops : Array Oper) (j : Nat) : yielded ops a.tmps j = aYield ops A j := by
  unfold yielded aYield
  cases hd : (ops[j]?).bind (·.dst) with
  | none => rfl
  | some t =>
    simp only [Option.bind_some]
    cases hx : A[t]? with
    | none =>
      have : a.tmps[t]? = none := by
        rw [List.getElem?_eq_none_iff] at hx
        have := hA.tmps.1
        rw [Array.getElem?_eq_none_iff]
        simp at this; omega
      rw [this]
    | some x =>
      obtain ⟨y, hy, hv⟩ := hA.tmps.get hx
      rw [Array.getElem?_toList] at hy
      rw [hy]
      cases hv with
      | lit h => rfl
      | _ => rfl

theorem wanted_rel {A : List Value} {a : Act} (hA : ActRel P ρ A a) (ops : Array Oper) (o : Oper) : Region.wanted o (yielded ops a.tmps) = Region.wanted o (aYield ops A) := by
  unfold Region.wanted
  cases o.guard with
  | none => rfl
  | some g => simp only [yield_rel hA]

/-- What stands behind a piece of the run: another world of the shape that the abstract run has come to. -/
def Post (P : Program) (w0 : World) (B : Nat) (G : List Nat) (ρ : Ren) (H : AH) (w : World) (A' : List Value) (H' : AH) (a' : Act) (w' : World) : Prop :=
  ∃ ρ', ActRel P ρ' A' a' ∧ GlobRel ρ' G ∧ Ext ρ H w ρ' H' w' ∧ Rel P w0 B ρ' H' w'

theorem ops_sound (hcall : CallOK P G call) (ops : Array Oper) {Q : Exit → Act → World → Prop} : ∀ (l : List Oper) {ρ : Ren} {A : List Value} {H : AH} {a : Act} {w : World} {A' : List Value} {H' : AH}, aOps P G call ops l A H = some (A', H') →
    ActRel P ρ A a → GlobRel ρ G → Rel P w0 B ρ H w → (∀ a' w', Post P w0 B G ρ H w A' H' a' w' → Q .normal a' w') → wpList P ops Q l a w := by
  intro l
  induction l with
  | nil =>
    intro ρ A H a w A' H' h hA hG hR hQ
    simp only [aOps] at h
    cases h
    exact hQ a w ⟨ρ, hA, hG, Ext.refl _ _ _, hR⟩
  | cons o rest ih =>
    intro ρ A H a w A' H' h hA hG hR hQ
    simp only [aOps] at h
    obtain ⟨⟨A1, H1⟩, hs, h⟩ := Option.bind_eq_some_iff.1 h
    simp only at h
    unfold aStep at hs
    split at hs
    · rename_i hok
      unfold wpList
      rw [wanted_rel hA]
      split at hs
      · rename_i hw
        rw [if_pos hw]
        obtain ⟨⟨v, H2⟩, ho, e⟩ := Option.map_eq_some_iff.1 hs
        cases e
        refine .inl (op_sound hcall hA hG hR hok ho (fun v' ρ' w' hv hE hR' => ?_))
        refine ih h (put_rel (hA.mono hE.le) o.dst hv) (hG.mono hE.le) hR' (fun a' w'' hp => ?_)
        obtain ⟨ρ'', h1, h2, h3, h4⟩ := hp
        exact hQ a' w'' ⟨ρ'', h1, h2, hE.trans hR h3, h4⟩
      · rename_i hw
        rw [if_neg hw]
        cases hs
        exact ih h (put_rel hA o.dst VRel.undef) hG hR hQ
    · cases hs

theorem region_text (hcall : CallOK P G call) {id : Nat} {ops : Array Oper} {Q : Exit → Act → World → Prop} {A : List Value} {a : Act} {A' : List Value} {H' : AH} (h : aOps P G call ops ops.toList A H = some (A', H'))
    (hA : ActRel P ρ A a) (hG : GlobRel ρ G) (hR : Rel P w0 B ρ H w) (hQ : ∀ a' w', Post P w0 B G ρ H w A' H' a' w' → Q .normal a' w') : (Code.region id ops false).wp P Q a w :=
  wp_region_list (ops_sound hcall ops ops.toList h hA hG hR hQ)
end
end Go.Proofs.YtbjelopcelompaaGreatDoor.Gst
