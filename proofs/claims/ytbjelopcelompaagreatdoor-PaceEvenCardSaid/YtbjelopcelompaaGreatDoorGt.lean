/- The abstract run of code, and of calls; it is sound. -/
import Derived.Test.YtbjelopcelompaaGreatDoorGs
import Derived.LoopN
namespace Go.Proofs.YtbjelopcelompaaGreatDoor.Gst
open Go Go.RowKit
set_option linter.unusedSimpArgs false

/-! ### Regions whose order is drawn -/
def regOK (ops : List Oper) : Bool :=
  let ms := masksOf ops
  ops.zipIdx.all (fun p => p.1.after.toList.all fun e => !Region.binds .any e || decide (e.on < p.2)) &&
  ops.zipIdx.all fun q => (ops.zipIdx.take q.2).all fun p => fb ms p.2 q.2 || (p.1.apart ops.toArray q.1 && !(opK p.1.op == 3 && opK q.1.op == 3))
/-- The readings and the effects whose order is left open. -/
def lookPairs (ops : List Oper) : List (Nat × Nat) :=
  let ms := masksOf ops
  (ops.zipIdx.filter fun p => opK p.1.op == 2).flatMap fun p => ((ops.zipIdx.filter fun q => opK q.1.op == 3 && !fb ms q.2 p.2 && !fb ms p.2 q.2).map fun q => (p.2, q.2))

def stA (P : Program) (G : List Nat) (call : CallF) (ops : Array Oper) (A : List Value) (H : AH) (i : Nat) : List Value × AH := (aOps P G call ops (ops.toList.take i) A H).getD (A, H)
def lookOK (P : Program) (s : Nat → List Value × AH) (ops : Array Oper) (p : Nat × Nat) : Prop :=
  ∀ o, ops[p.1]? = some o → aRd P (aEv (s p.1).1) o.op (s (if p.2 < p.1 then p.2 else p.2 + 1)).2 = aRd P (aEv (s p.1).1) o.op (s p.1).2
open Classical in
/-- This must hold, or the run comes to nothing. -/
noncomputable def chk {α : Type} (p : Prop) (x : Option α) : Option α := if p then x else none
theorem chk_some {α : Type} {p : Prop} {x : Option α} {r : α} (h : chk p x = some r) : p ∧ x = some r := by
  unfold chk at h
  split at h
  · exact ⟨by assumption, h⟩
  · cases h
theorem chk_true {α : Type} {p : Prop} (h : p) (x : Option α) : chk p x = x := by unfold chk; rw [if_pos h]

noncomputable def aDraw (P : Program) (G : List Nat) (call : CallF) (ops : Array Oper) (A : List Value) (H : AH) : Option (List Value × AH) :=
  match regOK ops.toList with
  | false => none
  | true => match lookPairs ops.toList with
    | [] => aOps P G call ops ops.toList A H
    | p :: ps => chk (∀ q ∈ p :: ps, lookOK P (stA P G call ops A H) ops q) (aOps P G call ops ops.toList A H)

theorem aDraw_some {P : Program} {G : List Nat} {call : CallF} {ops : Array Oper} {A : List Value} {H : AH} {r : List Value × AH} (h : aDraw P G call ops A H = some r) :
    regOK ops.toList = true ∧ (∀ p ∈ lookPairs ops.toList, lookOK P (stA P G call ops A H) ops p) ∧ aOps P G call ops ops.toList A H = some r := by
  unfold aDraw at h
  cases h1 : regOK ops.toList with
  | false => rw [h1] at h; cases h
  | true =>
    rw [h1] at h
    refine ⟨rfl, ?_⟩
    cases h2 : lookPairs ops.toList with
    | nil => rw [h2] at h; exact ⟨fun p hp => (by cases hp), h⟩
    | cons p ps =>
      rw [h2] at h
      exact chk_some h

section
variable {P : Program} {w0 : World} {B : Nat} {ρ : Ren} {H : AH} {w : World} {G : List Nat} {call : CallF} {ops : Array Oper}

theorem aOps_append (l1 l2 : List Oper) (A : List Value) (H : AH) : aOps P G call ops (l1 ++ l2) A H = (aOps P G call ops l1 A H).bind fun s => aOps P G call ops l2 s.1 s.2 := by
  induction l1 generalizing A H with
  | nil => rfl
  | cons o l ih =>
    simp only [List.cons_append, aOps]
    rw [Option.bind_assoc]
    congr 1
    funext s
    exact ih s.1 s.2

theorem stA_take {A : List Value} {r : List Value × AH} (h : aOps P G call ops ops.toList A H = some r) (i : Nat) : aOps P G call ops (ops.toList.take i) A H = some (stA P G call ops A H i) := by
  unfold stA
  have e : ops.toList = ops.toList.take i ++ ops.toList.drop i := (List.take_append_drop ..).symm
  rw [e, aOps_append] at h
  obtain ⟨s, hs, _⟩ := Option.bind_eq_some_iff.1 h
  rw [hs]; rfl

theorem stA_zero (A : List Value) : stA P G call ops A H 0 = (A, H) := rfl
theorem stA_all {A : List Value} {r : List Value × AH} (h : aOps P G call ops ops.toList A H = some r) : stA P G call ops A H ops.size = r := by
  unfold stA
  rw [show ops.size = ops.toList.length by simp, List.take_length, h]
  rfl

theorem stA_step {A : List Value} {r : List Value × AH} (h : aOps P G call ops ops.toList A H = some r) {i : Nat} {o : Oper} (ho : ops[i]? = some o) :
    aStep P G call ops o (stA P G call ops A H i).1 (stA P G call ops A H i).2 = some (stA P G call ops A H (i + 1)) := by
  have ho' : ops.toList[i]? = some o := by simpa using ho
  have h1 := stA_take h (i + 1)
  rw [List.take_add_one, ho', Option.toList_some, aOps_append, stA_take h i] at h1
  simp only [Option.bind_some, aOps] at h1
  obtain ⟨s, hs, e⟩ := Option.bind_eq_some_iff.1 h1
  rw [hs]
  exact e

/-- What the slot of an operation is given. -/
noncomputable def valA (P : Program) (G : List Nat) (call : CallF) (ops : Array Oper) (A : List Value) (H : AH) (i : Nat) : Value :=
  match ops[i]? with
  | some o => if Region.wanted o (aYield ops (stA P G call ops A H i).1) = true then ((aOp P call (aEv (stA P G call ops A H i).1) o (stA P G call ops A H i).2).map (·.1)).getD undef else undef
  | none => undef

theorem regOK_back (h : regOK ops.toList = true) : ∀ j o, ops[j]? = some o → ∀ e ∈ o.after, Region.binds .any e = true → e.on < j := by
  intro j o ho e he hb
  unfold regOK at h
  simp only [Bool.and_eq_true, List.all_eq_true] at h
  have ho' : ops.toList[j]? = some o := by simpa using ho
  have hm : (o, j) ∈ ops.toList.zipIdx := by
    rw [List.mem_iff_getElem?]
    exact ⟨j, by rw [List.getElem?_zipIdx, ho']; simp⟩
  have := h.1 (o, j) hm e (by simpa using he)
  simpa [hb] using this

theorem regOK_pair (h : regOK ops.toList = true) : ∀ i j oi oj, i < j → ops[i]? = some oi → ops[j]? = some oj → fb (masksOf ops.toList) i j = true ∨ (oi.apart ops oj = true ∧ ¬ (opK oi.op = 3 ∧ opK oj.op = 3)) := by
  intro i j oi oj hij hi hj
  unfold regOK at h
  simp only [Bool.and_eq_true, List.all_eq_true] at h
  have hi' : ops.toList[i]? = some oi := by simpa using hi
  have hj' : ops.toList[j]? = some oj := by simpa using hj
  have hm : (oj, j) ∈ ops.toList.zipIdx := by
    rw [List.mem_iff_getElem?]
    exact ⟨j, by rw [List.getElem?_zipIdx, hj']; simp⟩
  have hm2 : (oi, i) ∈ ops.toList.zipIdx.take j := by
    rw [List.mem_iff_getElem?]
    exact ⟨i, by rw [List.getElem?_take, if_pos hij, List.getElem?_zipIdx, hi']; simp⟩
  have := h.2 (oj, j) hm (oi, i) hm2
  simp only [Bool.or_eq_true, Bool.and_eq_true, Bool.not_eq_true', Bool.and_eq_false_iff, beq_eq_false_iff_ne, Array.toArray_toList] at this
  rcases this with h1 | ⟨h1, h2⟩
  · exact .inl h1
  · exact .inr ⟨h1, fun h3 => by rcases h2 with h2 | h2; exact h2 h3.1; exact h2 h3.2⟩

theorem mem_lookPairs {j e : Nat} {oj oe : Oper} (hj : ops[j]? = some oj) (he : ops[e]? = some oe) (h2 : opK oj.op = 2) (h3 : opK oe.op = 3) (hf1 : fb (masksOf ops.toList) e j = false) (hf2 : fb (masksOf ops.toList) j e = false) : (j, e) ∈ lookPairs ops.toList := by
  have hj' : ops.toList[j]? = some oj := by simpa using hj
  have he' : ops.toList[e]? = some oe := by simpa using he
  unfold lookPairs
  simp only [List.mem_flatMap, List.mem_filter, List.mem_map]
  refine ⟨(oj, j), ⟨?_, by simp [h2]⟩, (oe, e), ⟨?_, by simp [h3, hf1, hf2]⟩, rfl⟩
  · rw [List.mem_iff_getElem?]; exact ⟨j, by rw [List.getElem?_zipIdx, hj']; simp⟩
  · rw [List.mem_iff_getElem?]; exact ⟨e, by rw [List.getElem?_zipIdx, he']; simp⟩

/-- The trace of a region that has been gone. -/
noncomputable def mkTra {A : List Value} {r : List Value × AH} (h : aDraw P G call ops A H = some r) : Tra P G call ops where
  s := stA P G call ops A H
  val := valA P G call ops A H
  step := fun i o ho => by
    obtain ⟨_, _, hr⟩ := aDraw_some h
    have hs := stA_step hr ho
    unfold aStep at hs
    split at hs
    · rename_i hok
      refine ⟨hok, ?_⟩
      unfold valA
      rw [ho]
      simp only
      split at hs
      · rename_i hw
        obtain ⟨⟨v, H2⟩, hv, e⟩ := Option.map_eq_some_iff.1 hs
        rw [if_pos hw, hv, ← e]
        exact ⟨rfl, .inl ⟨hw, rfl⟩⟩
      · rename_i hw
        rw [if_neg hw]
        have e := (Option.some.inj hs).symm
        rw [e]
        exact ⟨rfl, .inr ⟨by simpa using hw, rfl, rfl⟩⟩
    · cases hs
  back := regOK_back (aDraw_some h).1
  pair := regOK_pair (aDraw_some h).1
  look := fun j e oj oe hj he h2 h3 hf1 hf2 => (aDraw_some h).2.1 (j, e) (mem_lookPairs hj he h2 h3 hf1 hf2) oj hj

theorem draw_sound (hcall : CallOK P G call) (hmono : CallMono call) (hm : P.follows .mixedOrders = true) {id : Nat} {Q : Exit → Act → World → Prop} {A : List Value} {a : Act} {A' : List Value} {H' : AH} (h : aDraw P G call ops A H = some (A', H'))
    (hA : ActRel P ρ A a) (hG : GlobRel ρ G) (hR : Rel P w0 B ρ H w) (hQ : ∀ a' w', Post P w0 B G ρ H w A' H' a' w' → Q .normal a' w') : (Code.region id ops true).wp P Q a w := by
  have W : Way (mkTra h) w0 B ρ w.drew := ⟨hcall, hmono, hG, hR.drew, ⟨a, hA⟩⟩
  refine region_any W hm (w := w) rfl hA (fun a' w' hp => hQ a' w' ?_)
  obtain ⟨ρ', h1, h2, h3, h4⟩ := hp
  have e : (mkTra h).s ops.size = (A', H') := stA_all (aDraw_some h).2.2
  rw [e] at h1 h3 h4
  exact ⟨ρ', h1, h2, Ext.of_drew h3, h4⟩
end

/-! ### Code -/
inductive AE where
  | normal
  | exit (id : Nat)
  | ret
deriving DecidableEq

abbrev AR := AE × List Value × AH

def aIter (f : List Value → AH → Option AR) : Nat → List Value → AH → Option AR
  | 0, _, _ => none
  | n + 1, A, H => (f A H).bind fun r => match r.1 with
    | .normal => aIter f n r.2.1 r.2.2
    | _ => some r

theorem aIter_mono {f : List Value → AH → Option AR} {n : Nat} {A : List Value} {H : AH} {r : AR} (h : aIter f n A H = some r) : ∀ m, n ≤ m → aIter f m A H = some r := by
  induction n generalizing A H with
  | zero => cases h
  | succ n ih =>
    intro m hm
    obtain ⟨m, rfl⟩ : ∃ k, m = k + 1 := ⟨m - 1, by omega⟩
    simp only [aIter] at h ⊢
    obtain ⟨s, hs, h⟩ := Option.bind_eq_some_iff.1 h
    rw [hs]
    simp only [Option.bind_some]
    split at h
    · exact ih h m (by omega)
    · exact h

open Classical in
/-- The rounds of a loop, as many as it takes. -/
noncomputable def aLoop (f : List Value → AH → Option AR) (A : List Value) (H : AH) : Option AR := if h : ∃ n r, aIter f n A H = some r then some h.choose_spec.choose else none

theorem aLoop_iff {f : List Value → AH → Option AR} {A : List Value} {H : AH} {r : AR} : aLoop f A H = some r ↔ ∃ n, aIter f n A H = some r := by
  unfold aLoop
  constructor
  · intro h
    split at h
    · rename_i hx
      cases h
      exact ⟨_, hx.choose_spec.choose_spec⟩
    · cases h
  · rintro ⟨n, hn⟩
    have hx : ∃ n r, aIter f n A H = some r := ⟨n, r, hn⟩
    rw [dif_pos hx]
    have h1 := aIter_mono hx.choose_spec.choose_spec (max n hx.choose) (Nat.le_max_right ..)
    have h2 := aIter_mono hn (max n hx.choose) (Nat.le_max_left ..)
    rw [h2] at h1
    exact h1.symm

theorem aLoop_eq (f : List Value → AH → Option AR) (A : List Value) (H : AH) : aLoop f A H = (f A H).bind fun r => match r.1 with | .normal => aLoop f r.2.1 r.2.2 | _ => some r := by
  apply Option.ext
  intro r
  rw [aLoop_iff]
  constructor
  · rintro ⟨n, hn⟩
    cases n with
    | zero => cases hn
    | succ n =>
      simp only [aIter] at hn
      obtain ⟨s, hs, h⟩ := Option.bind_eq_some_iff.1 hn
      rw [hs]
      simp only [Option.bind_some]
      split at h
      · exact aLoop_iff.2 ⟨n, h⟩
      · exact h
  · intro h
    obtain ⟨s, hs, h⟩ := Option.bind_eq_some_iff.1 h
    split at h
    · rename_i e
      obtain ⟨n, hn⟩ := aLoop_iff.1 h
      refine ⟨n + 1, ?_⟩
      simp only [aIter, hs, Option.bind_some, e]
      exact hn
    · rename_i e
      refine ⟨1, ?_⟩
      simp only [aIter, hs, Option.bind_some]
      exact h

noncomputable def aRegion (P : Program) (G : List Nat) (call : CallF) (ops : Array Oper) (draw : Bool) (A : List Value) (H : AH) : Option (List Value × AH) :=
  match draw with
  | true => aDraw P G call ops A H
  | false => aOps P G call ops ops.toList A H

noncomputable def aCode (P : Program) (G : List Nat) (call : CallF) : Code → List Value → AH → Option AR
  | .skip, A, H => some (.normal, A, H)
  | .label _, A, H => some (.normal, A, H)
  | .region _ ops draw, A, H => (aRegion P G call ops draw A H).map fun s => (.normal, s.1, s.2)
  | .seq x y, A, H => (aCode P G call x A H).bind fun r => match r.1 with
    | .normal => aCode P G call y r.2.1 r.2.2
    | _ => some r
  | .cond c x y, A, H => match aEv A c with
    | .bool true => aCode P G call x A H
    | .bool false => aCode P G call y A H
    | _ => none
  | .block id x, A, H => (aCode P G call x A H).map fun r => match r.1 with
    | .exit i => if i = id then (.normal, r.2.1, r.2.2) else r
    | _ => r
  | .loop x, A, H => aLoop (aCode P G call x) A H
  | .exit id, A, H => some (.exit id, A, H)
  | .ret, A, H => some (.ret, A, H)
  | _, _, _ => none

def AE.to : AE → Exit
  | .normal => .normal
  | .exit id => .exit id
  | .ret => .ret

section
variable {P : Program} {w0 : World} {B : Nat} {G : List Nat} {call : CallF}

theorem Post.trans {ρ ρ1 : Ren} {H H1 H2 : AH} {w w1 w2 : World} {A2 : List Value} {a2 : Act} (hR : Rel P w0 B ρ H w) (hE : Ext ρ H w ρ1 H1 w1) (h : Post P w0 B G ρ1 H1 w1 A2 H2 a2 w2) : Post P w0 B G ρ H w A2 H2 a2 w2 := by
  obtain ⟨ρ', h1, h2, h3, h4⟩ := h
  exact ⟨ρ', h1, h2, hE.trans hR h3, h4⟩

theorem code_sound (hcall : CallOK P G call) (hmono : CallMono call) (hm : P.follows .mixedOrders = true) : ∀ (c : Code) {Q : Exit → Act → World → Prop} {ρ : Ren} {A : List Value} {H : AH} {a : Act} {w : World} {e : AE} {A' : List Value} {H' : AH},
    aCode P G call c A H = some (e, A', H') → ActRel P ρ A a → GlobRel ρ G → Rel P w0 B ρ H w → (∀ a' w', Post P w0 B G ρ H w A' H' a' w' → Q e.to a' w') → c.wp P Q a w := by
  intro c
  induction c with
  | skip =>
    intro Q ρ A H a w e A' H' h hA hG hR hQ
    simp only [aCode] at h; cases h
    exact wp_skip (hQ a w ⟨ρ, hA, hG, Ext.refl _ _ _, hR⟩)
  | label l =>
    intro Q ρ A H a w e A' H' h hA hG hR hQ
    simp only [aCode] at h; cases h
    exact wp_label (hQ a w ⟨ρ, hA, hG, Ext.refl _ _ _, hR⟩)
  | exit id =>
    intro Q ρ A H a w e A' H' h hA hG hR hQ
    simp only [aCode] at h; cases h
    exact wp_exit (hQ a w ⟨ρ, hA, hG, Ext.refl _ _ _, hR⟩)
  | ret =>
    intro Q ρ A H a w e A' H' h hA hG hR hQ
    simp only [aCode] at h; cases h
    exact wp_ret (hQ a w ⟨ρ, hA, hG, Ext.refl _ _ _, hR⟩)
  | region id ops draw =>
    intro Q ρ A H a w e A' H' h hA hG hR hQ
    simp only [aCode] at h
    obtain ⟨⟨A1, H1⟩, hs, e1⟩ := Option.map_eq_some_iff.1 h
    cases e1
    cases draw with
    | true => exact draw_sound hcall hmono hm hs hA hG hR hQ
    | false => exact region_text hcall hs hA hG hR hQ
  | seq x y ihx ihy =>
    intro Q ρ A H a w e A' H' h hA hG hR hQ
    simp only [aCode] at h
    obtain ⟨⟨e1, A1, H1⟩, hx, h⟩ := Option.bind_eq_some_iff.1 h
    refine wp_seq (ihx hx hA hG hR (fun a1 w1 hp => ?_))
    cases e1 with
    | normal =>
      simp only at h
      obtain ⟨ρ1, hA1, hG1, hE1, hR1⟩ := hp
      exact ihy h hA1 hG1 hR1 (fun a' w' hp => hQ a' w' (hp.trans hR hE1))
    | exit id => simp only at h; cases h; exact hQ a1 w1 hp
    | ret => simp only at h; cases h; exact hQ a1 w1 hp
  | cond c x y ihx ihy =>
    intro Q ρ A H a w e A' H' h hA hG hR hQ
    simp only [aCode] at h
    have hc : ∀ t, aEv A c = .bool t → a.eval c = .bool t := by
      intro t ht
      cases c with
      | tmp u =>
        simp only [aEv] at ht
        cases hx : A[u]? with
        | none => rw [hx] at ht; simp [undef] at ht
        | some x =>
          rw [hx] at ht
          simp only [Option.getD_some] at ht
          subst ht
          obtain ⟨y, hy, hv⟩ := hA.tmps.get hx
          rw [Array.getElem?_toList] at hy
          simp only [Act.eval, Array.getD_eq_getD_getElem?, hy, Option.getD_some]
          exact hv.bool_inv
      | const v => exact ht
      | global g => cases ht
      | func f => cases ht
    split at h
    · rename_i ht; exact wp_cond (hc _ ht) (ihx h hA hG hR hQ)
    · rename_i ht; exact wp_cond (hc _ ht) (ihy h hA hG hR hQ)
    · cases h
  | block id x ih =>
    intro Q ρ A H a w e A' H' h hA hG hR hQ
    simp only [aCode] at h
    obtain ⟨⟨e1, A1, H1⟩, hx, e2⟩ := Option.map_eq_some_iff.1 h
    refine wp_block (ih hx hA hG hR (fun a1 w1 hp => ?_))
    cases e1 with
    | normal => simp only at e2; cases e2; exact hQ a1 w1 hp
    | ret => simp only at e2; cases e2; exact hQ a1 w1 hp
    | exit i =>
      simp only at e2
      simp only [AE.to, Exit.inBlock]
      split at e2
      · rename_i hi; cases e2; rw [if_pos hi]; exact hQ a1 w1 hp
      · rename_i hi; cases e2; rw [if_neg hi]; exact hQ a1 w1 hp
  | loop x ih =>
    intro Q ρ A H a w e A' H' h hA hG hR hQ
    simp only [aCode] at h
    obtain ⟨n, hn⟩ := aLoop_iff.1 h
    refine wp_loop_rounds n ?_
    clear h
    induction n generalizing ρ A H a w with
    | zero => cases hn
    | succ n ihn =>
      simp only [aIter] at hn
      obtain ⟨⟨e1, A1, H1⟩, hx, h⟩ := Option.bind_eq_some_iff.1 hn
      rw [rounds_succ]
      refine ih hx hA hG hR (fun a1 w1 hp => ?_)
      cases e1 with
      | normal =>
        simp only at h
        obtain ⟨ρ1, hA1, hG1, hE1, hR1⟩ := hp
        exact ihn hA1 hG1 hR1 (fun a' w' hp => hQ a' w' (hp.trans hR hE1)) h
      | exit id => simp only at h; cases h; exact hQ a1 w1 hp
      | ret => simp only at h; cases h; exact hQ a1 w1 hp
  | rangeFunc f ps x y => intro Q ρ A H a w e A' H' h; simp [aCode] at h
  | scope x => intro Q ρ A H a w e A' H' h; simp [aCode] at h
  | goto l => intro Q ρ A H a w e A' H' h; simp [aCode] at h
  | refuse s => intro Q ρ A H a w e A' H' h; simp [aCode] at h

theorem aOps_mono (hm : CallMono call) {ops : Array Oper} : ∀ (l : List Oper) {A : List Value} {H : AH} {r : List Value × AH}, aOps P G call ops l A H = some r → H.size ≤ r.2.size := by
  intro l
  induction l with
  | nil => intro A H r h; simp only [aOps] at h; cases h; exact Nat.le_refl _
  | cons o l ih =>
    intro A H r h
    simp only [aOps] at h
    obtain ⟨s, hs, h⟩ := Option.bind_eq_some_iff.1 h
    refine Nat.le_trans ?_ (ih h)
    unfold aStep at hs
    split at hs
    · split at hs
      · obtain ⟨⟨v, H2⟩, hv, e⟩ := Option.map_eq_some_iff.1 hs
        cases e; exact aOp_mono hm hv
      · cases hs; exact Nat.le_refl _
    · cases hs

theorem aCode_mono (hm : CallMono call) : ∀ (c : Code) {A : List Value} {H : AH} {r : AR}, aCode P G call c A H = some r → H.size ≤ r.2.2.size := by
  intro c
  induction c with
  | skip => intro A H r h; simp only [aCode] at h; cases h; exact Nat.le_refl _
  | label l => intro A H r h; simp only [aCode] at h; cases h; exact Nat.le_refl _
  | exit id => intro A H r h; simp only [aCode] at h; cases h; exact Nat.le_refl _
  | ret => intro A H r h; simp only [aCode] at h; cases h; exact Nat.le_refl _
  | region id ops draw =>
    intro A H r h
    simp only [aCode] at h
    obtain ⟨s, hs, e1⟩ := Option.map_eq_some_iff.1 h
    cases e1
    cases draw with
    | true => exact aOps_mono hm _ (aDraw_some hs).2.2
    | false => exact aOps_mono hm _ hs
  | seq x y ihx ihy =>
    intro A H r h
    simp only [aCode] at h
    obtain ⟨s, hx, h⟩ := Option.bind_eq_some_iff.1 h
    have h1 := ihx hx
    split at h
    · exact Nat.le_trans h1 (ihy h)
    · cases h; exact h1
  | cond c x y ihx ihy =>
    intro A H r h
    simp only [aCode] at h
    split at h
    · exact ihx h
    · exact ihy h
    · cases h
  | block id x ih =>
    intro A H r h
    simp only [aCode] at h
    obtain ⟨s, hx, e2⟩ := Option.map_eq_some_iff.1 h
    have h1 := ih hx
    split at e2
    · split at e2 <;> (subst e2; exact h1)
    · subst e2; exact h1
  | loop x ih =>
    intro A H r h
    simp only [aCode] at h
    obtain ⟨n, hn⟩ := aLoop_iff.1 h
    clear h
    induction n generalizing A H with
    | zero => cases hn
    | succ n ihn =>
      simp only [aIter] at hn
      obtain ⟨s, hx, h⟩ := Option.bind_eq_some_iff.1 hn
      have h1 := ih hx
      split at h
      · exact Nat.le_trans h1 (ihn h)
      · cases h; exact h1
  | rangeFunc f ps x y => intro A H r h; simp [aCode] at h
  | scope x => intro A H r h; simp [aCode] at h
  | goto l => intro A H r h; simp [aCode] at h
  | refuse s => intro A H r h; simp [aCode] at h
end
end Go.Proofs.YtbjelopcelompaaGreatDoor.Gst
