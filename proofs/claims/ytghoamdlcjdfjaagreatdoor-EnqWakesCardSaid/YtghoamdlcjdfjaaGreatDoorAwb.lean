/- Several texts in one. -/
import Derived.Test.YtghoamdlcjdfjaaGreatDoorAwa
namespace Go.Proofs.YtghoamdlcjdfjaaGreatDoor.Gst
open Go Go.RowKit
set_option linter.unusedSimpArgs false
def rA (ops : List Oper) : Bool :=
 let ms := bz ops
 ops.zipIdx.all (fun p => p.1.after.toList.all fun e => !Region.binds .any e || decide (e.on < p.2)) &&
 ops.zipIdx.all fun q => (ops.zipIdx.take q.2).all fun p => fb ms p.2 q.2 || (p.1.apart ops.toArray q.1 && !(jE p.1.op == 3 && jE q.1.op == 3))
def cT (ops : List Oper) : List (Nat × Nat) :=
 let ms := bz ops
 (ops.zipIdx.filter fun p => jE p.1.op == 2).flatMap fun p => ((ops.zipIdx.filter fun q => jE q.1.op == 3 && !fb ms q.2 p.2 && !fb ms p.2 q.2).map fun q => (p.2, q.2))
def iL (P : Program) (G : List Nat) (call : a7) (ops : Array Oper) (A : List Value) (H : AH) (i : Nat) : List Value × AH := (cr P G call ops (ops.toList.take i) A H).getD (A, H)
def iR (P : Program) (s : Nat → List Value × AH) (ops : Array Oper) (p : Nat × Nat) : Prop :=
 ∀ o, ops[p.1]? = some o → yP P (ed (s p.1).1) o.op (s (if p.2 < p.1 then p.2 else p.2 + 1)).2 = yP P (ed (s p.1).1) o.op (s p.1).2
open Classical in
noncomputable def FL {α : Type} (p : Prop) (x : Option α) : Option α := if p then x else none
theorem mq {α : Type} {p : Prop} {x : Option α} {r : α} (h : FL p x = some r) : p ∧ x = some r := by
 unfold FL at h
 split at h
 ·exact ⟨by assumption, h⟩
 ·cases h
theorem jr {α : Type} {p : Prop} (h : p) (x : Option α) : FL p x = x := by unfold FL; rw [if_pos h]
noncomputable def ly (P : Program) (G : List Nat) (call : a7) (ops : Array Oper) (A : List Value) (H : AH) : Option (List Value × AH) :=
 match rA ops.toList with
 | false => none
 | true => match cT ops.toList with
  | [] => cr P G call ops ops.toList A H
  | p :: ps => FL (∀ q ∈ p :: ps, iR P (iL P G call ops A H) ops q) (cr P G call ops ops.toList A H)
theorem fh {P : Program} {G : List Nat} {call : a7} {ops : Array Oper} {A : List Value} {H : AH} {r : List Value × AH} (h : ly P G call ops A H = some r) :
 rA ops.toList = true ∧ (∀ p ∈ cT ops.toList, iR P (iL P G call ops A H) ops p) ∧ cr P G call ops ops.toList A H = some r := by
 unfold ly at h
 cases h1 : rA ops.toList with
 | false => rw [h1] at h; cases h
 | true =>
  rw [h1] at h;refine ⟨rfl, ?_⟩
  cases h2 : cT ops.toList with
  | nil => rw [h2] at h; exact ⟨fun p hp => (by cases hp), h⟩
  | cons p ps =>
   rw [h2] at h;exact mq h
section
variable {P : Program} {w0 : World} {B : Nat} {ρ : bh} {H : AH} {w : World} {G : List Nat} {call : a7} {ops : Array Oper}
theorem wu (l1 l2 : List Oper) (A : List Value) (H : AH) : cr P G call ops (l1 ++ l2) A H = (cr P G call ops l1 A H).bind fun s => cr P G call ops l2 s.1 s.2 := by
 induction l1 generalizing A H with
 | nil => rfl
 | cons o l ih =>
  simp only [List.cons_append, cr];rw [Option.bind_assoc]
  congr 1
  funext s
  exact ih s.1 s.2
theorem uF {A : List Value} {r : List Value × AH} (h : cr P G call ops ops.toList A H = some r) (i : Nat) : cr P G call ops (ops.toList.take i) A H = some (iL P G call ops A H i) := by
 unfold iL;have e : ops.toList = ops.toList.take i ++ ops.toList.drop i := (List.take_append_drop ..).symm;rw [e, wu] at h;obtain ⟨s, hs, _⟩ := aC.1 h;rw [hs]; rfl
theorem Vx (A : List Value) : iL P G call ops A H 0 = (A, H) := rfl
theorem XW {A : List Value} {r : List Value × AH} (h : cr P G call ops ops.toList A H = some r) : iL P G call ops A H ops.size = r := by
 unfold iL;rw [show ops.size = ops.toList.length by simp, List.take_length, h]
 rfl
theorem G8 {A : List Value} {r : List Value × AH} (h : cr P G call ops ops.toList A H = some r) {i : Nat} {o : Oper} (ho : ops[i]? = some o) :
 fi P G call ops o (iL P G call ops A H i).1 (iL P G call ops A H i).2 = some (iL P G call ops A H (i + 1)) := by
 have ho' : ops.toList[i]? = some o := by simpa using ho
 have h1 := uF h (i + 1);rw [List.take_add_one, ho', Option.toList_some, wu, uF h i] at h1;simp only [be, cr] at h1;obtain ⟨s, hs, e⟩ := aC.1 h1;rw [hs];exact e
noncomputable def abA (P : Program) (G : List Nat) (call : a7) (ops : Array Oper) (A : List Value) (H : AH) (i : Nat) : Value :=
 match ops[i]? with
 | some o => if Region.wanted o (cN ops (iL P G call ops A H i).1) = true then ((dx P call (ed (iL P G call ops A H i).1) o (iL P G call ops A H i).2).map (·.1)).getD undef else undef
 | none => undef
theorem Ke (h : rA ops.toList = true) : ∀ j o, ops[j]? = some o → ∀ e ∈ o.after, Region.binds .any e = true → e.on < j := by
 intro j o ho e he hb;unfold rA at h;simp only [Bool.and_eq_true, List.all_eq_true] at h
 have ho' : ops.toList[j]? = some o := by simpa using ho
 have hm : (o, j) ∈ ops.toList.zipIdx := by
  rw [List.mem_iff_getElem?];exact ⟨j, by rw [List.getElem?_zipIdx, ho']; simp⟩
 have := h.1 (o, j) hm e (by simpa using he)
 simpa [hb] using this
theorem Kf (h : rA ops.toList = true) : ∀ i j oi oj, i < j → ops[i]? = some oi → ops[j]? = some oj → fb (bz ops.toList) i j = true ∨ (oi.apart ops oj = true ∧ ¬ (jE oi.op = 3 ∧ jE oj.op = 3)) := by
 intro i j oi oj hij hi hj;unfold rA at h;simp only [Bool.and_eq_true, List.all_eq_true] at h
 have hi' : ops.toList[i]? = some oi := by simpa using hi
 have hj' : ops.toList[j]? = some oj := by simpa using hj
 have hm : (oj, j) ∈ ops.toList.zipIdx := by
  rw [List.mem_iff_getElem?];exact ⟨j, by rw [List.getElem?_zipIdx, hj']; simp⟩
 have hm2 : (oi, i) ∈ ops.toList.zipIdx.take j := by
  rw [List.mem_iff_getElem?];exact ⟨i, by rw [List.getElem?_take, if_pos hij, List.getElem?_zipIdx, hi']; simp⟩
 have := h.2 (oj, j) hm (oi, i) hm2;simp only [Bool.or_eq_true, Bool.and_eq_true, Bool.not_eq_true', Bool.and_eq_false_iff, beq_eq_false_iff_ne, Array.toArray_toList] at this
 rcases this with h1 | ⟨h1, h2⟩
 ·exact .inl h1
 ·exact .inr ⟨h1, fun h3 => by rcases h2 with h2 | h2; exact h2 h3.1; exact h2 h3.2⟩
theorem By {j e : Nat} {oj oe : Oper} (hj : ops[j]? = some oj) (he : ops[e]? = some oe) (h2 : jE oj.op = 2) (h3 : jE oe.op = 3) (hf1 : fb (bz ops.toList) e j = false) (hf2 : fb (bz ops.toList) j e = false) : (j, e) ∈ cT ops.toList := by
 have hj' : ops.toList[j]? = some oj := by simpa using hj
 have he' : ops.toList[e]? = some oe := by simpa using he
 unfold cT;simp only [List.mem_flatMap, List.mem_filter, List.mem_map];refine ⟨(oj, j), ⟨?_, by simp [h2]⟩, (oe, e), ⟨?_, by simp [h3, hf1, hf2]⟩, rfl⟩
 ·rw [List.mem_iff_getElem?]; exact ⟨j, by rw [List.getElem?_zipIdx, hj']; simp⟩
 ·rw [List.mem_iff_getElem?]; exact ⟨e, by rw [List.getElem?_zipIdx, he']; simp⟩
noncomputable def YI {A : List Value} {r : List Value × AH} (h : ly P G call ops A H = some r) : Tra P G call ops where
 s := iL P G call ops A H
 val := abA P G call ops A H
 step := fun i o ho => by
  obtain ⟨_, _, hr⟩ := fh h;have hs := G8 hr ho;unfold fi at hs
  split at hs
  ·rename_i hok
   refine ⟨hok, ?_⟩;unfold abA;rw [ho];simp only
   split at hs
   ·rename_i hw
    obtain ⟨⟨v, H2⟩, hv, e⟩ := aM.1 hs;rw [if_pos hw, hv, ← e];exact ⟨rfl, .inl ⟨hw, rfl⟩⟩
   ·rename_i hw
    rw [if_neg hw];have e := (fg hs).symm;rw [e];exact ⟨rfl, .inr ⟨by simpa using hw, rfl, rfl⟩⟩
  ·cases hs
 back := Ke (fh h).1
 pair := Kf (fh h).1
 look := fun j e oj oe hj he h2 h3 hf1 hf2 => (fh h).2.1 (j, e) (By hj he h2 h3 hf1 hf2) oj hj
theorem HZ (hcall : kH P G call) (hmono : ga call) (hm : P.follows .mixedOrders = true) {id : Nat} {Q : Exit → Act → World → Prop} {A : List Value} {a : Act} {A' : List Value} {H' : AH} (h : ly P G call ops A H = some (A', H'))
 (hA : bI P ρ A a) (hG : GlobRel ρ G) (hR : Rel P w0 B ρ H w) (hQ : ∀ a' w', yI P w0 B G ρ H w A' H' a' w' → Q .normal a' w') : (Code.region id ops true).wp P Q a w := by
 have W : Way (YI h) w0 B ρ w.drew := ⟨hcall, hmono, hG, hR.drew, ⟨a, hA⟩⟩;refine Kg W hm (w := w) rfl hA (fun a' w' hp => hQ a' w' ?_);obtain ⟨ρ', h1, h2, h3, h4⟩ := hp;have e : (YI h).s ops.size = (A', H') := XW (fh h).2.2;rw [e] at h1 h3 h4;exact ⟨ρ', h1, h2, hU.of_drew h3, h4⟩
end
inductive AE where
 | normal
 | exit (id : Nat)
 | ret
deriving DecidableEq
abbrev AR := AE × List Value × AH
def dI (f : List Value → AH → Option AR) : Nat → List Value → AH → Option AR
 | 0, _, _ => none
 | n + 1, A, H => (f A H).bind fun r => match r.1 with
  | .normal => dI f n r.2.1 r.2.2
  | _ => some r
theorem yN {f : List Value → AH → Option AR} {n : Nat} {A : List Value} {H : AH} {r : AR} (h : dI f n A H = some r) : ∀ m, n ≤ m → dI f m A H = some r := by
 induction n generalizing A H with
 | zero => cases h
 | succ n ih =>
  intro m hm;obtain ⟨m, rfl⟩ : ∃ k, m = k + 1 := ⟨m - 1, by omega⟩;simp only [dI] at h ⊢;obtain ⟨s, hs, h⟩ := aC.1 h;rw [hs];simp only [be]
  split at h
  ·exact ih h m (by omega)
  ·exact h
open Classical in
noncomputable def nS (f : List Value → AH → Option AR) (A : List Value) (H : AH) : Option AR := if h : ∃ n r, dI f n A H = some r then some h.choose_spec.choose else none
theorem cq {f : List Value → AH → Option AR} {A : List Value} {H : AH} {r : AR} : nS f A H = some r ↔ ∃ n, dI f n A H = some r := by
 unfold nS
 constructor
 ·intro h
  split at h
  ·rename_i hx
   cases h;exact ⟨_, hx.choose_spec.choose_spec⟩
  ·cases h
 ·rintro ⟨n, hn⟩
  have hx : ∃ n r, dI f n A H = some r := ⟨n, r, hn⟩;rw [dif_pos hx];have h1 := yN hx.choose_spec.choose_spec (max n hx.choose) (Nat.le_max_right ..);have h2 := yN hn (max n hx.choose) (Nat.le_max_left ..);rw [h2] at h1;exact h1.symm
theorem Ru (f : List Value → AH → Option AR) (A : List Value) (H : AH) : nS f A H = (f A H).bind fun r => match r.1 with | .normal => nS f r.2.1 r.2.2 | _ => some r := by
 apply Option.ext;intro r;rw [cq]
 constructor
 ·rintro ⟨n, hn⟩
  cases n with
  | zero => cases hn
  | succ n =>
   simp only [dI] at hn;obtain ⟨s, hs, h⟩ := aC.1 hn;rw [hs];simp only [be]
   split at h
   ·exact cq.2 ⟨n, h⟩
   ·exact h
 ·intro h
  obtain ⟨s, hs, h⟩ := aC.1 h
  split at h
  ·rename_i e
   obtain ⟨n, hn⟩ := cq.1 h;refine ⟨n + 1, ?_⟩;simp only [dI, hs, be, e];exact hn
  ·rename_i e
   refine ⟨1, ?_⟩;simp only [dI, hs, be];exact h
noncomputable def eX (P : Program) (G : List Nat) (call : a7) (ops : Array Oper) (draw : Bool) (A : List Value) (H : AH) : Option (List Value × AH) :=
 match draw with
 | true => ly P G call ops A H
 | false => cr P G call ops ops.toList A H
noncomputable def aK (P : Program) (G : List Nat) (call : a7) : Code → List Value → AH → Option AR
 | .skip, A, H => some (.normal, A, H)
 | .label _, A, H => some (.normal, A, H)
 | .region _ ops draw, A, H => (eX P G call ops draw A H).map fun s => (.normal, s.1, s.2)
 | .seq x y, A, H => (aK P G call x A H).bind fun r => match r.1 with
  | .normal => aK P G call y r.2.1 r.2.2
  | _ => some r
 | .cond c x y, A, H => match ed A c with
  | .bool true => aK P G call x A H
  | .bool false => aK P G call y A H
  | _ => none
 | .block id x, A, H => (aK P G call x A H).map fun r => match r.1 with
  | .exit i => if i = id then (.normal, r.2.1, r.2.2) else r
  | _ => r
 | .loop x, A, H => nS (aK P G call x) A H
 | .exit id, A, H => some (.exit id, A, H)
 | .ret, A, H => some (.ret, A, H)
 | _, _, _ => none
def AE.to : AE → Exit
 | .normal => .normal
 | .exit id => .exit id
 | .ret => .ret
section
variable {P : Program} {w0 : World} {B : Nat} {G : List Nat} {call : a7}
theorem yI.trans {ρ ρ1 : bh} {H H1 H2 : AH} {w w1 w2 : World} {A2 : List Value} {a2 : Act} (hR : Rel P w0 B ρ H w) (hE : hU ρ H w ρ1 H1 w1) (h : yI P w0 B G ρ1 H1 w1 A2 H2 a2 w2) : yI P w0 B G ρ H w A2 H2 a2 w2 := by
 obtain ⟨ρ', h1, h2, h3, h4⟩ := h;exact ⟨ρ', h1, h2, hE.trans hR h3, h4⟩
theorem za (hcall : kH P G call) (hmono : ga call) (hm : P.follows .mixedOrders = true) : ∀ (c : Code) {Q : Exit → Act → World → Prop} {ρ : bh} {A : List Value} {H : AH} {a : Act} {w : World} {e : AE} {A' : List Value} {H' : AH},
 aK P G call c A H = some (e, A', H') → bI P ρ A a → GlobRel ρ G → Rel P w0 B ρ H w → (∀ a' w', yI P w0 B G ρ H w A' H' a' w' → Q e.to a' w') → c.wp P Q a w := by
 intro c
 induction c with
 | skip =>
  intro Q ρ A H a w e A' H' h hA hG hR hQ;simp only [aK] at h; cases h;exact wp_skip (hQ a w ⟨ρ, hA, hG, hU.refl _ _ _, hR⟩)
 | label l =>
  intro Q ρ A H a w e A' H' h hA hG hR hQ;simp only [aK] at h; cases h;exact wp_label (hQ a w ⟨ρ, hA, hG, hU.refl _ _ _, hR⟩)
 | exit id =>
  intro Q ρ A H a w e A' H' h hA hG hR hQ;simp only [aK] at h; cases h;exact wp_exit (hQ a w ⟨ρ, hA, hG, hU.refl _ _ _, hR⟩)
 | ret =>
  intro Q ρ A H a w e A' H' h hA hG hR hQ;simp only [aK] at h; cases h;exact wp_ret (hQ a w ⟨ρ, hA, hG, hU.refl _ _ _, hR⟩)
 | region id ops draw =>
  intro Q ρ A H a w e A' H' h hA hG hR hQ;simp only [aK] at h;obtain ⟨⟨A1, H1⟩, hs, e1⟩ := aM.1 h;cases e1
  cases draw with
  | true => exact HZ hcall hmono hm hs hA hG hR hQ
  | false => exact GY hcall hs hA hG hR hQ
 | seq x y ihx ihy =>
  intro Q ρ A H a w e A' H' h hA hG hR hQ;simp only [aK] at h;obtain ⟨⟨e1, A1, H1⟩, hx, h⟩ := aC.1 h;refine wp_seq (ihx hx hA hG hR (fun a1 w1 hp => ?_))
  cases e1 with
  | normal =>
   simp only at h;obtain ⟨ρ1, hA1, hG1, hE1, hR1⟩ := hp;exact ihy h hA1 hG1 hR1 (fun a' w' hp => hQ a' w' (hp.trans hR hE1))
  | exit id => simp only at h; cases h; exact hQ a1 w1 hp
  | ret => simp only at h; cases h; exact hQ a1 w1 hp
 | cond c x y ihx ihy =>
  intro Q ρ A H a w e A' H' h hA hG hR hQ;simp only [aK] at h
  have hc : ∀ t, ed A c = .bool t → a.eval c = .bool t := by
   intro t ht
   cases c with
   | tmp u =>
    simp only [ed] at ht
    cases hx : A[u]? with
    | none => rw [hx] at ht; simp [undef] at ht
    | some x =>
     rw [hx] at ht;simp only [Option.getD_some] at ht;subst ht;obtain ⟨y, hy, hv⟩ := hA.tmps.get hx;rw [Array.getElem?_toList] at hy;simp only [Act.eval, Array.getD_eq_getD_getElem?, hy, Option.getD_some];exact hv.bool_inv
   | const v => exact ht
   | global g => cases ht
   | func f => cases ht
  split at h
  ·rename_i ht; exact wp_cond (hc _ ht) (ihx h hA hG hR hQ)
  ·rename_i ht; exact wp_cond (hc _ ht) (ihy h hA hG hR hQ)
  ·cases h
 | block id x ih =>
  intro Q ρ A H a w e A' H' h hA hG hR hQ;simp only [aK] at h;obtain ⟨⟨e1, A1, H1⟩, hx, e2⟩ := aM.1 h;refine wp_block (ih hx hA hG hR (fun a1 w1 hp => ?_))
  cases e1 with
  | normal => simp only at e2; cases e2; exact hQ a1 w1 hp
  | ret => simp only at e2; cases e2; exact hQ a1 w1 hp
  | exit i =>
   simp only at e2;simp only [AE.to, Exit.inBlock]
   split at e2
   ·rename_i hi; cases e2; rw [if_pos hi]; exact hQ a1 w1 hp
   ·rename_i hi; cases e2; rw [if_neg hi]; exact hQ a1 w1 hp
 | loop x ih =>
  intro Q ρ A H a w e A' H' h hA hG hR hQ;simp only [aK] at h;obtain ⟨n, hn⟩ := cq.1 h;refine wp_loop_rounds n ?_
  clear h
  induction n generalizing ρ A H a w with
  | zero => cases hn
  | succ n ihn =>
   simp only [dI] at hn;obtain ⟨⟨e1, A1, H1⟩, hx, h⟩ := aC.1 hn;rw [rounds_succ];refine ih hx hA hG hR (fun a1 w1 hp => ?_)
   cases e1 with
   | normal =>
    simp only at h;obtain ⟨ρ1, hA1, hG1, hE1, hR1⟩ := hp;exact ihn hA1 hG1 hR1 (fun a' w' hp => hQ a' w' (hp.trans hR hE1)) h
   | exit id => simp only at h; cases h; exact hQ a1 w1 hp
   | ret => simp only at h; cases h; exact hQ a1 w1 hp
 | rangeFunc f ps x y => intro Q ρ A H a w e A' H' h; simp [aK] at h
 | scope x => intro Q ρ A H a w e A' H' h; simp [aK] at h
 | goto l => intro Q ρ A H a w e A' H' h; simp [aK] at h
 | refuse s => intro Q ρ A H a w e A' H' h; simp [aK] at h
theorem pV (hm : ga call) {ops : Array Oper} : ∀ (l : List Oper) {A : List Value} {H : AH} {r : List Value × AH}, cr P G call ops l A H = some r → H.size ≤ r.2.size := by
 intro l
 induction l with
 | nil => intro A H r h; simp only [cr] at h; cases h; exact bf _
 | cons o l ih =>
  intro A H r h;simp only [cr] at h;obtain ⟨s, hs, h⟩ := aC.1 h;refine dN ?_ (ih h);unfold fi at hs
  split at hs
  ·split at hs
   ·obtain ⟨⟨v, H2⟩, hv, e⟩ := aM.1 hs
    cases e; exact Fw hm hv
   ·cases hs; exact bf _
  ·cases hs
theorem yL (hm : ga call) : ∀ (c : Code) {A : List Value} {H : AH} {r : AR}, aK P G call c A H = some r → H.size ≤ r.2.2.size := by
 intro c
 induction c with
 | skip => intro A H r h; simp only [aK] at h; cases h; exact bf _
 | label l => intro A H r h; simp only [aK] at h; cases h; exact bf _
 | exit id => intro A H r h; simp only [aK] at h; cases h; exact bf _
 | ret => intro A H r h; simp only [aK] at h; cases h; exact bf _
 | region id ops draw =>
  intro A H r h;simp only [aK] at h;obtain ⟨s, hs, e1⟩ := aM.1 h;cases e1
  cases draw with
  | true => exact pV hm _ (fh hs).2.2
  | false => exact pV hm _ hs
 | seq x y ihx ihy =>
  intro A H r h;simp only [aK] at h;obtain ⟨s, hx, h⟩ := aC.1 h;have h1 := ihx hx
  split at h
  ·exact dN h1 (ihy h)
  ·cases h; exact h1
 | cond c x y ihx ihy =>
  intro A H r h;simp only [aK] at h
  split at h
  ·exact ihx h
  ·exact ihy h
  ·cases h
 | block id x ih =>
  intro A H r h;simp only [aK] at h;obtain ⟨s, hx, e2⟩ := aM.1 h;have h1 := ih hx
  split at e2
  ·split at e2 <;> (subst e2; exact h1)
  ·subst e2; exact h1
 | loop x ih =>
  intro A H r h;simp only [aK] at h;obtain ⟨n, hn⟩ := cq.1 h
  clear h
  induction n generalizing A H with
  | zero => cases hn
  | succ n ihn =>
   simp only [dI] at hn;obtain ⟨s, hx, h⟩ := aC.1 hn;have h1 := ih hx
   split at h
   ·exact dN h1 (ihn h)
   ·cases h; exact h1
 | rangeFunc f ps x y => intro A H r h; simp [aK] at h
 | scope x => intro A H r h; simp [aK] at h
 | goto l => intro A H r h; simp [aK] at h
 | refuse s => intro A H r h; simp [aK] at h
end
def jZ (P : Program) (A : List Value) (H : AH) : ResultVar → Option Value
 | .tmp t => some (A[t]?.getD undef)
 | .cell a t => (d9 P t).bind fun g => match g with
  | some n => aB n (A[a]?.getD undef) H
  | none => am (A[a]?.getD undef) H
def qW (P : Program) (A : List Value) (H : AH) : List ResultVar → Option (List Value)
 | [] => some []
 | r :: rs => (jZ P A H r).bind fun v => (qW P A H rs).bind fun vs => some (v :: vs)
def ic (P : Program) (A : List Value) (H : AH) (rs : List ResultVar) : Option Value := (qW P A H rs).map fun vs => match vs with
 | [v] => v
 | vs => .tuple vs.toArray
def Rt (P : Program) (rs : List ResultVar) (r : AR) : Option (Value × AH) :=
 match r.1 with
 | .exit _ => none
 | _ => (ic P r.2.1 r.2.2 rs).map (·, r.2.2)
noncomputable def nR (P : Program) (G : List Nat) (call : a7) (n : Nat) (rs : List ResultVar) (c : Code) (args : List Value) (H : AH) : Option (Value × AH) :=
 (aK P G call c (args ++ List.replicate (n - args.length) undef) H).bind (Rt P rs)
structure DSh where
 c1 : Code
 id2 : Nat
 ops2 : Array Oper
 om : Oper
 df : Oper
 t : Nat
 k : Nat
 id3 : Nat
 ops3 : Array Oper
def jG : Code → Option DSh
 | .seq c1 (.seq (.region id2 ops2 false) (.seq (.region id3 ops3 false) .ret)) => match ops2.toList with
  | [mk, df] => match mk.dst, mk.op, mk.guard, df.dst, df.op, df.guard with
   | some t, .makeFunc (.func k) first _, none, none, .defer ⟨.value (.tmp t'), args, _⟩, none => if t = t' ∧ first = #[] ∧ args = #[] then some ⟨c1, id2, ops2, mk, df, t, k, id3, ops3⟩ else none
   | _, _, _, _, _, _ => none
  | _ => none
 | _ => none
theorem FQ {c : Code} {s : DSh} (h : jG c = some s) : c = .seq s.c1 (.seq (.region s.id2 s.ops2 false) (.seq (.region s.id3 s.ops3 false) .ret)) ∧ s.ops2.toList = [s.om, s.df] ∧ s.om.dst = some s.t ∧
 (∃ cap, s.om.op = .makeFunc (.func s.k) #[] cap) ∧ s.om.guard = none ∧ s.df.dst = none ∧ (∃ ats, s.df.op = .defer ⟨.value (.tmp s.t), #[], ats⟩) ∧ s.df.guard = none := by
 unfold jG at h
 split at h
 ·split at h
  ·rename_i hl
   split at h
   ·rename_i h1 h2 h3 h4 h5 h6
    split at h
    ·rename_i hc
     obtain ⟨rfl, rfl, rfl⟩ := hc;cases h;exact ⟨rfl, hl, h1, ⟨_, h2⟩, h3, h4, ⟨_, h5⟩, h6⟩
    ·cases h
   ·cases h
  ·cases h
 ·cases h
def sR (P : Program) (k : Nat) : Prop :=
 (∃ fn, P.funcs[k]? = some fn ∧ fn.body.isSome = true ∧ fn.name ≠ "runtime.NumGoroutine") ∧
 ∀ (args : Array Value) (w : World), CallsD P k args .returning w fun e u' w' => (∃ v, e = .returned v) ∧ u' = .returning ∧ w' = w
noncomputable def nc (P : Program) (G : List Nat) (call : a7) (n : Nat) (rs : List ResultVar) (s : DSh) (args : List Value) (H : AH) : Option (Value × AH) :=
 (aK P G call s.c1 (args ++ List.replicate (n - args.length) undef) H).bind fun r => match r.1 with
  | .normal => if r.2.1.length ≤ s.t then none else (fi P G call s.ops2 s.om r.2.1 r.2.2).bind fun q => (cr P G call s.ops3 s.ops3.toList q.1 q.2).bind fun z => (ic P z.1 z.2 rs).map (·, z.2)
  | _ => none
noncomputable def d8 (P : Program) (G : List Nat) : Nat → a7
 | 0 => fun _ _ _ => none
 | d + 1 => fun f args H => match P.funcs[f]? with
  | some fn => if fn.name = "runtime.NumGoroutine" then none else match fn.body with
   | some c => match jG c with
    | none => nR P G (d8 P G d) fn.ntmps fn.results.toList c args H
    | some s => FL (sR P s.k) (nc P G (d8 P G d) fn.ntmps fn.results.toList s args H)
   | none => none
  | none => none
section
variable {P : Program} {w0 : World} {B : Nat} {ρ : bh} {H : AH} {w : World} {G : List Nat} {call : a7}
theorem Kl {A : List Value} {a : Act} (hA : bI P ρ A a) (hR : Rel P w0 B ρ H w) {r : ResultVar} {v : Value} (h : jZ P A H r = some v) :
 ∃ v', (match r with | .tmp t => pure (a.tmps.getD t undef) | .cell x t => do loadVar t (← asAddr (a.tmps.getD x undef)) : Sem Value).run P w = .ok v' w ∧ VRel P ρ v v' := by
 have slot : ∀ t, VRel P ρ (A[t]?.getD undef) (a.tmps.getD t undef) := fun t => u5 (G := []) hA (fun g hg => by simp at hg) (x := .tmp t) rfl
 cases r with
 | tmp t => simp only [jZ] at h; cases h; exact ⟨_, rfl, slot t⟩
 | cell x t =>
  simp only [jZ] at h;obtain ⟨g, hg, h⟩ := aC.1 h
  cases g with
  | none =>
   obtain ⟨a', y', ha, hr, hv⟩ := Uo hR h (slot x);refine ⟨y', ?_, hv⟩;simp only [ha];simp [asAddr, loadVar, nf hg]
   simpa using hr
  | some n =>
   obtain ⟨a', ys, ha, hr, hv⟩ := Gy hR h (slot x);obtain ⟨hag, hsz⟩ := ng hg w;refine ⟨.agg ys, ?_, hv⟩;simp only [ha];simp [asAddr, loadVar, hag, cj hsz, hr]
theorem Uv {A : List Value} {a : Act} (hA : bI P ρ A a) (hR : Rel P w0 B ρ H w) : ∀ {rs : List ResultVar} {vs : List Value}, qW P A H rs = some vs →
 ∃ vs', (rs.mapM (fun r => (match r with | .tmp t => pure (a.tmps.getD t undef) | .cell x t => do loadVar t (← asAddr (a.tmps.getD x undef)) : Sem Value))).run P w = .ok vs' w ∧ LRel P ρ vs vs' := by
 intro rs
 induction rs with
 | nil => intro vs h; simp only [qW] at h; cases h; exact ⟨[], rfl, LRel.nil⟩
 | cons r rs ih =>
  intro vs h;simp only [qW] at h;obtain ⟨v, hv, h⟩ := aC.1 h;obtain ⟨vs0, hvs, h⟩ := aC.1 h;cases h;obtain ⟨v', hr, hv'⟩ := Kl hA hR hv;obtain ⟨vs', hrs, hvs'⟩ := ih hvs;refine ⟨v' :: vs', ?_, hvs'.cons hv'⟩;rw [List.mapM_cons];simp only [Sem.run_bind, hr, Result.andThen_ok, hrs, Sem.run_pure]
theorem wQ {A : List Value} {a : Act} (hA : bI P ρ A a) (hR : Rel P w0 B ρ H w) {fn : Func} {v : Value} (h : ic P A H fn.results.toList = some v) :
 ∃ v', (results fn a.tmps).run P w = .ok v' w ∧ VRel P ρ v v' := by
 unfold ic at h;obtain ⟨vs, hvs, e⟩ := aM.1 h;obtain ⟨vs', hrun, hl⟩ := Uv hA hR hvs
 have hm : ∀ g : ResultVar → Sem Value, (fn.results.mapM g).run P w = ((fn.results.toList.mapM g >>= fun l => pure l.toArray : Sem (Array Value))).run P w := by
  intro g;rw [Array.mapM_eq_mapM_toList]
  rfl
 have h2 : (results fn a.tmps).run P w = .ok (if h : vs'.toArray.size = 1 then vs'.toArray[0] else .tuple vs'.toArray) w := by
  unfold results;rw [Sem.run_bind, hm, Sem.run_bind]
  erw [hrun]
  rfl
 refine ⟨_, h2, ?_⟩;have hlen := hl.1
 split at e
 ·rename_i x
  subst e
  match vs', hlen, hl with
  | [y], _, hl => simpa using hl.2 0 _ _ rfl rfl
 ·rename_i hne
  subst e
  have : ¬ vs'.toArray.size = 1 := by
   intro h1
   match vs, hlen, hne with
   | [x], _, hne => exact hne x rfl
   | [], hlen, _ => simp at hlen h1; omega
   | x :: y :: zs, hlen, _ => simp at hlen h1; omega
  rw [dif_neg this];exact .tuple (by simp [hlen]) (fun i x y hx hy => hl.2 i x y (by simpa using hx) (by simpa using hy))
theorem JC (hcall : kH P G call) {ops : Array Oper} (ds : List Deferred) {Q : Exit → Act → World → Prop} : ∀ (l : List Oper) {ρ : bh} {A : List Value} {H : AH} {a : Act} {w : World} {A' : List Value} {H' : AH}, cr P G call ops l A H = some (A', H') →
 bI P ρ A a → GlobRel ρ G → Rel P w0 B ρ H w → (∀ a' w', yI P w0 B G ρ H w A' H' a' w' → Q .normal { a' with defers := ds } w') → wpList P ops Q l { a with defers := ds } w := by
 intro l
 induction l with
 | nil =>
  intro ρ A H a w A' H' h hA hG hR hQ;simp only [cr] at h;cases h;exact hQ a w ⟨ρ, hA, hG, hU.refl _ _ _, hR⟩
 | cons o rest ih =>
  intro ρ A H a w A' H' h hA hG hR hQ;simp only [cr] at h;obtain ⟨⟨A1, H1⟩, hs, h⟩ := aC.1 h;simp only at h;unfold fi at hs
  split at hs
  ·rename_i hok
   unfold wpList;have hwr := sN hA ops o;rw [show Region.wanted o (yielded ops ({ a with defers := ds } : Act).tmps) = Region.wanted o (cN ops A) from hwr]
   split at hs
   ·rename_i hw
    rw [if_pos hw];obtain ⟨⟨v, H2⟩, ho, e⟩ := aM.1 hs;cases e;have hr := tY hcall hA hG hR hok ho;refine .inl (dH.wp (a := { a with defers := ds }) (dH.congr hr rfl) (fun v' w' hv => ?_));obtain ⟨ρ', hv, hE, hR'⟩ := hv;have := ih (a := a.put o.dst v') h (jm (hA.mono hE.le) o.dst hv) (hG.mono hE.le) hR' (fun a' w'' hp => hQ a' w'' (hp.trans hR hE))
    have e : ({ a.put o.dst v' with defers := ds } : Act) = ({ a with defers := ds } : Act).put o.dst v' := by cases o.dst <;> rfl
    rw [e] at this;exact this
   ·rename_i hw
    rw [if_neg hw];cases hs;have := ih (a := a.put o.dst undef) h (jm hA o.dst VRel.undef) hG hR hQ
    have e : ({ a.put o.dst undef with defers := ds } : Act) = ({ a with defers := ds } : Act).put o.dst undef := by cases o.dst <;> rfl
    rw [e] at this;exact this
  ·cases hs
theorem FP (hcall : kH P G call) (hmono : ga call) (hm : P.follows .mixedOrders = true) {f : Nat} {fn : Func} {c : Code} {s : DSh} (hf : P.funcs[f]? = some fn) (hb : fn.body = some c) (hd : jG c = some s)
 {args : List Value} {args' : Array Value} {v : Value} {H' : AH} (h : FL (sR P s.k) (nc P G call fn.ntmps fn.results.toList s args H) = some (v, H'))
 (hA : bI P ρ (args ++ List.replicate (fn.ntmps - args.length) undef) { tmps := args' ++ Array.replicate (fn.ntmps - args'.size) undef, defers := [] }) (hG : GlobRel ρ G) (hR : Rel P w0 B ρ H w) :
 Calls P f args' w fun e w' => ∃ v' ρ', e = .returned v' ∧ VRel P ρ' v v' ∧ hU ρ H w ρ' H' w' ∧ Rel P w0 B ρ' H' w' := by
 obtain ⟨⟨⟨fk, hfk, hbk, hnk⟩, hcd⟩, h⟩ := mq h;obtain ⟨hc, hl2, hdst, ⟨cap, hop⟩, hg, hdd, ⟨ats, hdo⟩, hdg⟩ := FQ hd;unfold nc at h;obtain ⟨⟨e1, A1, H1⟩, h1, h⟩ := aC.1 h
 cases e1 with
 | exit i => cases h
 | ret => cases h
 | normal =>
  simp only at h
  split at h
  ·cases h
  rename_i hlt
  obtain ⟨⟨A2, H2⟩, h2, h⟩ := aC.1 h;obtain ⟨⟨A3, H3⟩, h3, h⟩ := aC.1 h;obtain ⟨x, hx, e⟩ := aM.1 h;cases e;refine calls_of_wp_defers hf hb ?_;rw [hc];refine wp_seq (za hcall hmono hm s.c1 h1 hA hG hR (fun a1 w1 hp => ?_));obtain ⟨ρ1, hA1, hG1, hE1, hR1⟩ := hp;refine wp_seq (wp_region_list ?_);rw [hl2];have hd1 : a1.defers = [] := hA1.defers;unfold fi at h2
  split at h2
  ·rename_i hok
   have hwt : Region.wanted s.om (cN s.ops2 A1) = true := by simp [Region.wanted, hg]
   rw [if_pos hwt] at h2;obtain ⟨⟨y, H2'⟩, ho, e⟩ := aM.1 h2;cases e;refine wpList_plain hg (fun K hK => dH.wp (tY hcall hA1 hG1 hR1 hok ho) (fun v' w2 hv => hK _ _ ?_));obtain ⟨ρ2, hv, hE2, hR2⟩ := hv
   have hy : y = .func (.func s.k) #[] (cap.map (ed A1)) := by
    unfold dx at ho;rw [hop] at ho;simp at ho;exact ho.1.symm
   rw [hy] at hv;obtain ⟨f', c', rfl, hf', _⟩ := hv.func_inv
   have hf0 : f' = #[] := by
    have := hf'.1;simp at this;exact Array.eq_empty_of_size_eq_zero (by simpa using this.symm)
   subst hf0;refine wpList_plain hdg (fun K' hK' => ?_)
   have ht : (a1.put s.om.dst (.func (.func s.k) #[] c')).eval (.tmp s.t) = .func (.func s.k) #[] c' := by
    have hsz : s.t < a1.tmps.size := by have := hA1.tmps.1; simp at this; omega
    rw [hdst];simp [Act.put, Act.eval, hsz, Array.getD]
   have hrun : (execOp (a1.put s.om.dst (.func (.func s.k) #[] c')).eval s.df).run P w2 = .ok (.defer { target := .fn (.func s.k) c', args := #[] }) w2 := by
    simp [execOp, hdo, resolve, ht, Deferred.ofValue]
   unfold Oper.wp;rw [hrun, Oper.upon_defer];refine hK' _ _ (wpList_nil ?_);rw [hdd];have hA2 := jm (hA1.mono hE2.le) s.om.dst hv
   have hpd : ∀ (a : Act) (d : Option Tmp) (x : Value), (a.put d x).defers = a.defers := by intro a d x; cases d <;> rfl
   have e : ({ a1.put s.om.dst (.func (.func s.k) #[] c') with defers := { target := .fn (.func s.k) c', args := #[] } :: (a1.put s.om.dst (.func (.func s.k) #[] c')).defers } : Act).put none undef
    = { a1.put s.om.dst (.func (.func s.k) #[] c') with defers := [{ target := .fn (.func s.k) c', args := #[] }] } := by
    rw [hpd, hd1]; rfl
   rw [e];show (Code.seq (.region s.id3 s.ops3 false) .ret).wp P _ _ _;rw [hy] at h3;refine wp_seq (wp_region_list (JC hcall _ _ h3 hA2 (hG1.mono hE2.le) hR2 (fun a3 w3 hp => ?_)));obtain ⟨ρ3, hA3, hG3, hE3, hR3⟩ := hp;refine wp_ret ?_;obtain ⟨v3, hr3, hv3⟩ := wQ hA3 hR3 hx
   have hbn : ¬ (fk.body = none) := by intro hb; rw [hb] at hbk; cases hbk
   refine leaves_cons (f := s.k) (args := c') (by simp) (by simp [invoke, callFunc, hfk, hnk, hbn]) (CallsD.mono (hcd _ _) ?_)
   rintro e' u' w' ⟨⟨v0, rfl⟩, rfl, rfl⟩
   exact ⟨v3, hr3, v3, ρ3, rfl, hv3, hE1.trans hR (hE2.trans hR1 hE3), hR3⟩
  ·cases h2
theorem Fv (hm : ga call) {n : Nat} {rs : List ResultVar} {s : DSh} {args : List Value} {v : Value} {H' : AH} (h : nc P G call n rs s args H = some (v, H')) : H.size ≤ H'.size := by
 unfold nc at h;obtain ⟨⟨e1, A1, H1⟩, h1, h⟩ := aC.1 h
 cases e1 with
 | exit i => cases h
 | ret => cases h
 | normal =>
  simp only at h
  split at h
  ·cases h
  obtain ⟨⟨A2, H2⟩, h2, h⟩ := aC.1 h;obtain ⟨⟨A3, H3⟩, h3, h⟩ := aC.1 h;obtain ⟨x, hx, e⟩ := aM.1 h;cases e;have g1 := yL hm _ h1;have g2 : H1.size ≤ H2.size := pV (P := P) (G := G) (call := call) hm [s.om] (ops := s.ops2) (A := A1) (H := H1) (r := (A2, H2)) (by simp [cr, h2]);have g3 := pV hm _ h3;simp only at g1 g3;exact dN g1 (dN g2 g3)
theorem y8 (hm : P.follows .mixedOrders = true) : ∀ d, kH P G (d8 P G d) ∧ ga (d8 P G d) := by
 intro d
 induction d with
 | zero => exact ⟨fun f args H v H' h => (by cases h), fun f args H v H' h => (by cases h)⟩
 | succ d ih =>
  constructor
  ·intro f args H v H' h
   simp only [d8] at h
   cases hf : P.funcs[f]? with
   | none => rw [hf] at h; cases h
   | some fn =>
    rw [hf] at h;simp only at h
    split at h
    ·cases h
    ·rename_i hname
     cases hb : fn.body with
     | none => rw [hb] at h; cases h
     | some c =>
      rw [hb] at h;simp only at h;refine ⟨⟨fn, rfl, by rw [hb]; rfl, hname⟩, fun w0 B ρ w args' hR hG hargs => ?_⟩
      have hA : bI P ρ (args ++ List.replicate (fn.ntmps - args.length) undef) { tmps := args'.toArray ++ Array.replicate (fn.ntmps - args'.toArray.size) undef, defers := [] } := by
       refine ⟨?_, rfl⟩;simp only [Array.toList_append, Array.toList_replicate, List.size_toArray];rw [hargs.1];refine hargs.append ⟨rfl, fun i x y hx hy => ?_⟩;rw [hx] at hy;cases hy;rw [List.getElem?_replicate] at hx
       split at hx
       ·cases hx; exact VRel.undef
       ·cases hx
      cases hd : jG c with
      | some s => rw [hd] at h; exact FP ih.1 ih.2 hm hf hb hd h hA hG hR
      | none =>
      rw [hd] at h;simp only [nR] at h;obtain ⟨⟨e, A', H2⟩, hc, h⟩ := aC.1 h;refine calls_of_wp hf hb ?_;refine za ih.1 ih.2 hm c hc hA hG hR (fun a' w' hp => ?_);obtain ⟨ρ', hA', hG', hE, hR'⟩ := hp
      have fin : ∀ {x : Value} {H3 : AH}, (ic P A' H2 fn.results.toList).map (·, H2) = some (x, H3) → a'.defers = [] ∧ ∃ v', (results fn a'.tmps).run P w' = .ok v' w' ∧ ∃ v'' ρ'', Ending.returned v' = .returned v'' ∧ VRel P ρ'' x v'' ∧ hU ρ H w ρ'' H3 w' ∧ Rel P w0 B ρ'' H3 w' := by
       intro x H3 hx;obtain ⟨y, hy, e⟩ := aM.1 hx;cases e;obtain ⟨v', hr, hv⟩ := wQ hA' hR' hy;exact ⟨hA'.defers, v', hr, v', ρ', rfl, hv, hE, hR'⟩
      cases e with
      | normal => exact fin h
      | ret => exact fin h
      | exit i => cases h
  ·intro f args H v H' h
   simp only [d8] at h
   cases hf : P.funcs[f]? with
   | none => rw [hf] at h; cases h
   | some fn =>
    rw [hf] at h;simp only at h
    split at h
    ·cases h
    ·cases hb : fn.body with
     | none => rw [hb] at h; cases h
     | some c =>
      rw [hb] at h;simp only [nR] at h
      cases hd : jG c with
      | some s =>
       rw [hd] at h;obtain ⟨_, h⟩ := mq h;exact Fv ih.2 h
      | none =>
      rw [hd] at h;simp only at h;obtain ⟨⟨e, A', H2⟩, hc, h⟩ := aC.1 h;have h1 := yL ih.2 c hc;unfold Rt at h
      split at h
      ·cases h
      ·obtain ⟨y, hy, e⟩ := aM.1 h
       cases e; exact h1
end
def Rk (c1 c2 : a7) : Prop := ∀ f args H r, c1 f args H = some r → c2 f args H = some r
section
variable {P : Program} {G : List Nat} {c1 c2 : a7}
theorem Y0 (h : Rk c1 c2) {ev : Operand → Value} {o : Oper} {H : AH} {r : Value × AH} (hr : dx P c1 ev o H = some r) : dx P c2 ev o H = some r := by
 obtain ⟨dst, op, type, pos, after, guard⟩ := o
 cases op with
 | call c =>
  obtain ⟨callee, args, ats⟩ := c
  cases callee with
  | value f =>
   simp only [dx] at hr ⊢;obtain ⟨x, hx, hr⟩ := aC.1 hr;rw [hx];exact h _ _ _ _ hr
  | invoke r m => exact hr
  | builtin b => exact hr
 | makeMap t r => cases r <;> exact hr
 | slice t x lo hi mx => cases lo <;> cases hi <;> cases mx <;> exact hr
 | _ => exact hr
theorem yQ (h : Rk c1 c2) {ops : Array Oper} {o : Oper} {A : List Value} {H : AH} {r : List Value × AH} (hr : fi P G c1 ops o A H = some r) : fi P G c2 ops o A H = some r := by
 unfold fi at hr ⊢
 split at hr
 ·rename_i hok
  rw [if_pos hok]
  split at hr
  ·rename_i hw
   rw [if_pos hw];obtain ⟨x, hx, e⟩ := aM.1 hr;rw [Y0 h hx];exact congrArg some e
  ·rename_i hw
   rw [if_neg hw];exact hr
 ·cases hr
theorem pU (h : Rk c1 c2) {ops : Array Oper} : ∀ (l : List Oper) {A : List Value} {H : AH} {r : List Value × AH}, cr P G c1 ops l A H = some r → cr P G c2 ops l A H = some r := by
 intro l
 induction l with
 | nil => intro A H r hr; exact hr
 | cons o l ih =>
  intro A H r hr;simp only [cr] at hr ⊢;obtain ⟨s, hs, hr⟩ := aC.1 hr;rw [yQ h hs];exact ih hr
theorem Vw (h : Rk c1 c2) {ops : Array Oper} {A : List Value} {H : AH} {r : List Value × AH} (hr : cr P G c1 ops ops.toList A H = some r) : iL P G c2 ops A H = iL P G c1 ops A H := by
 funext i
 have h1 := pU h _ (uF hr i);unfold iL at h1 ⊢;rw [h1]; rfl
theorem Rs (h : Rk c1 c2) {ops : Array Oper} {A : List Value} {H : AH} {r : List Value × AH} (hr : ly P G c1 ops A H = some r) : ly P G c2 ops A H = some r := by
 obtain ⟨h1, h2, h3⟩ := fh hr;unfold ly;rw [h1];simp only
 cases h4 : cT ops.toList with
 | nil => exact pU h _ h3
 | cons p ps =>
  simp only;rw [jr ?_]
  ·exact pU h _ h3
  ·rw [Vw h h3, ← h4]; exact h2
theorem mn (h : Rk c1 c2) : ∀ (c : Code) {A : List Value} {H : AH} {r : AR}, aK P G c1 c A H = some r → aK P G c2 c A H = some r := by
 intro c
 induction c with
 | region id ops draw =>
  intro A H r hr;simp only [aK] at hr ⊢;obtain ⟨s, hs, e1⟩ := aM.1 hr
  have : eX P G c2 ops draw A H = some s := by
   cases draw with
   | true => exact Rs h hs
   | false => exact pU h _ hs
  rw [this]; exact congrArg some e1
 | seq x y ihx ihy =>
  intro A H r hr;simp only [aK] at hr ⊢;obtain ⟨s, hx, hr⟩ := aC.1 hr;rw [ihx hx];simp only [be]
  split at hr
  ·exact ihy hr
  ·exact hr
 | cond c x y ihx ihy =>
  intro A H r hr;simp only [aK] at hr ⊢
  split at hr
  ·exact ihx hr
  ·exact ihy hr
  ·cases hr
 | block id x ih =>
  intro A H r hr;simp only [aK] at hr ⊢;obtain ⟨s, hx, e2⟩ := aM.1 hr;rw [ih hx]; exact congrArg some e2
 | loop x ih =>
  intro A H r hr;simp only [aK] at hr ⊢;obtain ⟨n, hn⟩ := cq.1 hr;refine cq.2 ⟨n, ?_⟩
  clear hr
  induction n generalizing A H with
  | zero => cases hn
  | succ n ihn =>
   simp only [dI] at hn ⊢;obtain ⟨s, hx, hr⟩ := aC.1 hn;rw [ih hx];simp only [be]
   split at hr
   ·exact ihn hr
   ·exact hr
 | _ => intro A H r hr; exact hr
theorem Rq (h : Rk c1 c2) {n : Nat} {rs : List ResultVar} {c : Code} {args : List Value} {H : AH} {r : Value × AH} (hr : nR P G c1 n rs c args H = some r) : nR P G c2 n rs c args H = some r := by
 unfold nR at hr ⊢;obtain ⟨s, hs, hr⟩ := aC.1 hr;rw [mn h _ hs];exact hr
theorem NU (h : Rk c1 c2) {n : Nat} {rs : List ResultVar} {s : DSh} {args : List Value} {H : AH} {r : Value × AH} (hr : nc P G c1 n rs s args H = some r) : nc P G c2 n rs s args H = some r := by
 unfold nc at hr ⊢;obtain ⟨⟨e1, A1, H1⟩, h1, hr⟩ := aC.1 hr;rw [mn h _ h1];simp only [be]
 cases e1 with
 | exit i => exact hr
 | ret => exact hr
 | normal =>
  simp only at hr ⊢
  split at hr
  ·cases hr
  rename_i hlt
  rw [if_neg hlt];obtain ⟨q, h2, hr⟩ := aC.1 hr;obtain ⟨z, h3, hr⟩ := aC.1 hr;rw [yQ h h2];simp only [be];rw [pU h _ h3];exact hr
theorem HK : ∀ d, Rk (d8 P G d) (d8 P G (d + 1)) := by
 intro d
 induction d with
 | zero => intro f args H r h; cases h
 | succ d ih =>
  intro f args H r h;rw [d8] at h ⊢;simp only [] at h ⊢
  cases hf : P.funcs[f]? with
  | none => rw [hf] at h; cases h
  | some fn =>
   rw [hf] at h;simp only at h ⊢
   split at h
   ·cases h
   ·rename_i hn
    rw [if_neg hn]
    cases hb : fn.body with
    | none => rw [hb] at h; cases h
    | some c =>
     rw [hb] at h;simp only at h ⊢
     cases hd : jG c with
     | none => rw [hd] at h; exact Rq ih h
     | some s =>
      rw [hd] at h;obtain ⟨h1, h2⟩ := mq h;simp only;rw [jr h1];exact NU ih h2
theorem jp {d e : Nat} (h : d ≤ e) : Rk (d8 P G d) (d8 P G e) := by
 induction e with
 | zero => rw [show d = 0 from by omega]; exact fun _ _ _ _ h => h
 | succ e ih =>
  by_cases hd : d = e + 1
  ·rw [hd]; exact fun _ _ _ _ h => h
  ·exact fun f args H r hr => HK e f args H r (ih (by omega) f args H r hr)
open Classical in
noncomputable def aF (P : Program) (G : List Nat) : a7 := fun f args H => if h : ∃ d r, d8 P G d f args H = some r then some h.choose_spec.choose else none
theorem yM {f : Nat} {args : List Value} {H : AH} {r : Value × AH} : aF P G f args H = some r ↔ ∃ d, d8 P G d f args H = some r := by
 unfold aF
 constructor
 ·intro h
  split at h
  ·rename_i hx
   cases h;exact ⟨_, hx.choose_spec.choose_spec⟩
  ·cases h
 ·rintro ⟨n, hn⟩
  have hx : ∃ d r, d8 P G d f args H = some r := ⟨n, r, hn⟩;rw [dif_pos hx];have h1 := jp (Nat.le_max_right n hx.choose) _ _ _ _ hx.choose_spec.choose_spec;have h2 := jp (Nat.le_max_left n hx.choose) _ _ _ _ hn;rw [h2] at h1;exact h1.symm
theorem Z3 (hm : P.follows .mixedOrders = true) : kH P G (aF P G) ∧ ga (aF P G) := by
 constructor
 ·intro f args H v H' h
  obtain ⟨d, hd⟩ := yM.1 h;exact (y8 hm d).1 f args H v H' hd
 ·intro f args H v H' h
  obtain ⟨d, hd⟩ := yM.1 h;exact (y8 hm d).2 f args H v H' hd
theorem WB {ev : Operand → Value} {o : Oper} {H : AH} {r : Value × AH} (h : dx P (aF P G) ev o H = some r) : ∃ d, dx P (d8 P G d) ev o H = some r := by
 obtain ⟨dst, op, type, pos, after, guard⟩ := o
 cases op with
 | call c =>
  obtain ⟨callee, args, ats⟩ := c
  cases callee with
  | value f =>
   simp only [dx] at h ⊢;obtain ⟨x, hx, h⟩ := aC.1 h;obtain ⟨d, hd⟩ := yM.1 h;exact ⟨d, by rw [hx]; exact hd⟩
  | invoke r m => exact ⟨0, h⟩
  | builtin b => exact ⟨0, h⟩
 | makeMap t r => cases r <;> exact ⟨0, h⟩
 | slice t x lo hi mx => cases lo <;> cases hi <;> cases mx <;> exact ⟨0, h⟩
 | _ => exact ⟨0, h⟩
theorem Fy {ops : Array Oper} : ∀ (l : List Oper) {A : List Value} {H : AH} {r : List Value × AH}, cr P G (aF P G) ops l A H = some r → ∃ d, cr P G (d8 P G d) ops l A H = some r := by
 intro l
 induction l with
 | nil => intro A H r hr; exact ⟨0, hr⟩
 | cons o l ih =>
  intro A H r hr;simp only [cr] at hr ⊢;obtain ⟨s, hs, hr⟩ := aC.1 hr;obtain ⟨d2, h2⟩ := ih hr
  have h1 : ∃ d, fi P G (d8 P G d) ops o A H = some s := by
   unfold fi at hs ⊢
   split at hs
   ·rename_i hok
    split at hs
    ·rename_i hw
     obtain ⟨x, hx, e⟩ := aM.1 hs;obtain ⟨d, hd⟩ := WB hx;exact ⟨d, by rw [if_pos hok, if_pos hw, hd]; exact congrArg some e⟩
    ·rename_i hw
     exact ⟨0, by rw [if_pos hok, if_neg hw]; exact hs⟩
   ·cases hs
  obtain ⟨d1, h1⟩ := h1;refine ⟨max d1 d2, ?_⟩;rw [yQ (jp (Nat.le_max_left ..)) h1];exact pU (jp (Nat.le_max_right ..)) _ h2
theorem KW (d : Nat) : Rk (d8 P G d) (aF P G) := fun _ _ _ _ h => yM.2 ⟨d, h⟩
theorem Fz {ops : Array Oper} {draw : Bool} {A : List Value} {H : AH} {r : List Value × AH} (h : eX P G (aF P G) ops draw A H = some r) : ∃ d, eX P G (d8 P G d) ops draw A H = some r := by
 cases draw with
 | false => exact Fy _ h
 | true =>
  simp only [eX] at h ⊢;obtain ⟨h1, h2, h3⟩ := fh h;obtain ⟨d, hd⟩ := Fy _ h3;refine ⟨d, ?_⟩;unfold ly;rw [h1];simp only
  cases h4 : cT ops.toList with
  | nil => exact hd
  | cons p ps =>
   simp only;rw [jr ?_]
   ·exact hd
   ·rw [← Vw (KW d) hd, ← h4]; exact h2
theorem NT : ∀ (c : Code) {A : List Value} {H : AH} {r : AR}, aK P G (aF P G) c A H = some r → ∃ d, aK P G (d8 P G d) c A H = some r := by
 intro c
 induction c with
 | region id ops draw =>
  intro A H r hr;simp only [aK] at hr ⊢;obtain ⟨s, hs, e1⟩ := aM.1 hr;obtain ⟨d, hd⟩ := Fz hs;exact ⟨d, by rw [hd]; exact congrArg some e1⟩
 | seq x y ihx ihy =>
  intro A H r hr;simp only [aK] at hr ⊢;obtain ⟨s, hx, hr⟩ := aC.1 hr;obtain ⟨d1, h1⟩ := ihx hx
  split at hr
  ·rename_i e
   obtain ⟨d2, h2⟩ := ihy hr;refine ⟨max d1 d2, ?_⟩;rw [mn (jp (Nat.le_max_left ..)) _ h1];simp only [be, e];exact mn (jp (Nat.le_max_right ..)) _ h2
  ·refine ⟨d1, ?_⟩
   rw [h1];simp only [be];exact hr
 | cond c x y ihx ihy =>
  intro A H r hr;simp only [aK] at hr ⊢
  split at hr
  ·exact ihx hr
  ·exact ihy hr
  ·cases hr
 | block id x ih =>
  intro A H r hr;simp only [aK] at hr ⊢;obtain ⟨s, hx, e2⟩ := aM.1 hr;obtain ⟨d, hd⟩ := ih hx;exact ⟨d, by rw [hd]; exact congrArg some e2⟩
 | loop x ih =>
  intro A H r hr;simp only [aK] at hr ⊢;obtain ⟨n, hn⟩ := cq.1 hr
  have key : ∃ d, dI (aK P G (d8 P G d) x) n A H = some r := by
   clear hr
   induction n generalizing A H with
   | zero => cases hn
   | succ n ihn =>
    simp only [dI] at hn ⊢;obtain ⟨s, hx, hr⟩ := aC.1 hn;obtain ⟨d1, h1⟩ := ih hx
    split at hr
    ·rename_i e
     obtain ⟨d2, h2⟩ := ihn hr;refine ⟨max d1 d2, ?_⟩;rw [mn (jp (Nat.le_max_left ..)) _ h1];simp only [be, e]
     have key2 : ∀ (n : Nat) {A : List Value} {H : AH} {r : AR}, dI (aK P G (d8 P G d2) x) n A H = some r → dI (aK P G (d8 P G (max d1 d2)) x) n A H = some r := by
      intro n
      induction n with
      | zero => intro A H r h; cases h
      | succ n ih2 =>
       intro A H r h;simp only [dI] at h ⊢;obtain ⟨s, hx, hr⟩ := aC.1 h;rw [mn (jp (Nat.le_max_right d1 d2)) _ hx];simp only [be]
       split at hr
       ·exact ih2 hr
       ·exact hr
     exact key2 n h2
    ·refine ⟨d1, ?_⟩
     rw [h1];simp only [be];exact hr
  obtain ⟨d, hd⟩ := key;exact ⟨d, cq.2 ⟨n, hd⟩⟩
 | _ => intro A H r hr; exact ⟨0, hr⟩
theorem Z2 {f : Nat} {fn : Func} {c : Code} (hf : P.funcs[f]? = some fn) (hb : fn.body = some c) (hn : fn.name ≠ "runtime.NumGoroutine") (hds : jG c = none) {args : List Value} {H : AH} {r : Value × AH}
 (h : nR P G (aF P G) fn.ntmps fn.results.toList c args H = some r) : aF P G f args H = some r := by
 unfold nR at h;obtain ⟨s, hs, h⟩ := aC.1 h;obtain ⟨d, hd⟩ := NT _ hs;refine yM.2 ⟨d + 1, ?_⟩;simp only [d8, hf, hb, if_neg hn, hds, nR, hd, be];exact h
end
section
variable {R : Type}
abbrev tb {α β : Type} (x : Option α) (f : α → Option β) : Option β :=
 match x with
 | some a => f a
 | none => none
theorem Hj {α β : Type} (x : Option α) (f : α → Option β) : tb x f = x.bind f := by cases x <;> rfl
abbrev fE (P : Program) (b : Builtin) (argTypes : Array TypeId) (args : List Value) (H : AH) (k : Value → AH → Option R) : Option R :=
 match b, args with
 | .len, [x] => match (argTypes[0]?).bind fun t => P.underlying t with
  | some (.slice _) => match x with | .slice _ n _ => k (.int .i64 n) H | _ => none
  | some .string => match x with | .string s => k (.int .i64 s.size) H | _ => none
  | some (.map _ _) => (lJ x H).bind fun v => k v H
  | _ => none
 | .max, args => (gT args).bind fun v => k v H
 | .min, args => (iH args).bind fun v => k v H
 | .append, [s, x] => (argTypes[0]?).bind fun t => (bQ P t).bind fun el => (bY P el).bind fun e => (eI P el).bind fun by' => (bp P el).bind fun z =>
  if z.cells.size = e ∧ (argTypes[1]?).bind (fun u => bQ P u) = some el then (dX e by' s x H).bind fun r => k r.1 r.2 else none
 | .delete, [m, key] => (argTypes[0]?).bind fun t => (bS P t).bind fun kt => (cf P kt.1).bind fun fl => (lH fl m key H).bind fun H' => k (.tuple #[]) H'
 | _, _ => none
abbrev oh (P : Program) (call : a7) (ev : Operand → Value) (o : Oper) (H : AH) (k : Value → AH → Option R) : Option R :=
 match o.op with
 | .move x => k (ev x) H
 | .assign x => k (ev x) H
 | .pick c a b => (aQ (ev c) (ev a) (ev b)).bind fun v => k v H
 | .alloc t => (bp P t).bind fun z => k (.pointer (some ⟨H.size, 0, none⟩)) (H.push (.cells false z.cells.toList))
 | .box _ x => k (.pointer (some ⟨H.size, 0, none⟩)) (H.push (.cells false (ev x).cells.toList))
 | .build t parts => match P.underlying t with
  | some (.struct fs) => (bp P t).bind fun z => (iB P fs.toList).bind fun ps => (cA (ps[·]?) z.cells.toList (parts.toList.map fun p => (p.1, ev p.2))).bind fun cs => k (.agg cs.toArray) H
  | some (.array _ el) => (bp P t).bind fun z => (bY P el).bind fun e => (cA (fun i => some (i * e, e)) z.cells.toList (parts.toList.map fun p => (p.1, ev p.2))).bind fun cs => k (.agg cs.toArray) H
  | _ => none
 | .buildSlice t len parts => (bQ P t).bind fun el => (bY P el).bind fun e => (bp P el).bind fun z =>
  if 0 < e ∧ z.cells.size = e ∧ len * e ≤ 2 ^ 24 then
   (cA (fun i => some (i * e, e)) (List.replicate len z.cells.toList).flatten (parts.toList.map fun p => (p.1, ev p.2))).bind fun cs => k (.slice (some ⟨H.size, 0, none⟩) len e) (H.push (.cells false cs))
  else none
 | .load t a => (d9 P t).bind fun g => match g with
  | some n => (aB n (ev a) H).bind fun v => k v H
  | none => (am (ev a) H).bind fun v => k v H
 | .store t a x => (bY P t).bind fun n => (dg n (ev a) (ev x) H).bind fun H' => k undef H'
 | .nilCheck x => (sn (ev x)).bind fun v => k v H
 | .binOp op t x y _ => (ak (wy P t) op (ev x) (ev y)).bind fun v => k v H
 | .unOp op _ x => (pw op (ev x)).bind fun v => k v H
 | .convert src dst x => match P.underlying src with
  | some _ => (bO (o5 P dst) (ev x)).bind fun v => k v H
  | none => none
 | .makeFunc fn first captured => k (.func fn (first.map ev) (captured.map ev)) H
 | .makeMap _ none => k (.map (some H.size)) (H.push (.map [] 0))
 | .makeSlice t l c => (bQ P t).bind fun el => (bY P el).bind fun e => (eI P el).bind fun by' => (bp P el).bind fun z => (jV z.cells.toList e by' (ev l) (ev c) H).bind fun r => k r.1 r.2
 | .slice t x lo hi none => (bQ P t).bind fun el => (bY P el).bind fun e => (dY e (ev x) (lo.map ev) (hi.map ev)).bind fun v => k v H
 | .slice t x none (some hi) (some mx) => (bQ P t).bind fun el => (bY P el).bind fun _ => (iA (ev x) (ev hi) (ev mx)).bind fun v => k v H
 | .fieldAddr s x f => (jf P s f).bind fun f => (bY P f.type).bind fun n => if n = 0 then none else (BA f.offset (ev x)).bind fun v => k v H
 | .field s x f => (jf P s f).bind fun f => (d9 P f.type).bind fun n => (jC n f.offset (ev x)).bind fun v => k v H
 | .indexAddr t x i => match P.underlying t with
  | some (.slice el) => (bY P el).bind fun e => (mW e (ev x) (ev i)).bind fun v => k v H
  | some (.array len el) => (bY P el).bind fun e => (hF len e (ev x) (ev i)).bind fun v => k v H
  | _ => none
 | .index t x i => match P.underlying t with
  | some (.array len el) => (bY P el).bind fun e => (d9 P el).bind fun n => (iz len n e (ev x) (ev i)).bind fun v => k v H
  | some .string => (iy (ev x) (ev i)).bind fun v => k v H
  | _ => none
 | .lookup t m key ok => (bS P t).bind fun kt => (cf P kt.1).bind fun fl => (bp P kt.2).bind fun z => (b7 fl z (ev m) (ev key) ok H).bind fun v => k v H
 | .mapUpdate t m key x => (bS P t).bind fun kt => (cf P kt.1).bind fun fl => (dv fl (ev m) (ev key) (ev x) H).bind fun H' => k undef H'
 | .extract t i => (ai (ev t) i).bind fun v => k v H
 | .call c => match c.callee with
  | .builtin b => fE P b c.argTypes (c.args.toList.map ev) H k
  | .value f => (b6 (ev f) (c.args.toList.map ev)).bind fun fa => (call fa.1 fa.2 H).bind fun r => k r.1 r.2
  | _ => none
 | _ => none
abbrev y7 (P : Program) (b : Builtin) (argTypes : Array TypeId) (args : List Value) (H : AH) (k : Value → AH → Option R) : Option R :=
 match b, args with
 | .len, [x] => match (argTypes[0]?).bind fun t => P.underlying t with
  | some (.slice _) => match x with | .slice _ n _ => k (.int .i64 n) H | _ => none
  | some .string => match x with | .string s => k (.int .i64 s.size) H | _ => none
  | some (.map _ _) => (lJ x H).bind fun v => k v H
  | _ => none
 | .max, args => (gT args).bind fun v => k v H
 | .min, args => (iH args).bind fun v => k v H
 | .append, [s, x] => tb (argTypes[0]?) fun t => tb (bQ P t) fun el => tb (bY P el) fun e => tb (eI P el) fun by' => tb (bp P el) fun z =>
  if z.cells.size = e ∧ (argTypes[1]?).bind (fun u => bQ P u) = some el then (dX e by' s x H).bind fun r => k r.1 r.2 else none
 | .delete, [m, key] => tb (argTypes[0]?) fun t => tb (bS P t) fun kt => tb (cf P kt.1) fun fl => (lH fl m key H).bind fun H' => k (.tuple #[]) H'
 | _, _ => none
abbrev Y3 (P : Program) (call : a7) (ev : Operand → Value) (o : Oper) (H : AH) (k : Value → AH → Option R) : Option R :=
 match o.op with
 | .move x => k (ev x) H
 | .assign x => k (ev x) H
 | .pick c a b => (aQ (ev c) (ev a) (ev b)).bind fun v => k v H
 | .alloc t => tb (bp P t) fun z => k (.pointer (some ⟨H.size, 0, none⟩)) (H.push (.cells false z.cells.toList))
 | .box _ x => k (.pointer (some ⟨H.size, 0, none⟩)) (H.push (.cells false (ev x).cells.toList))
 | .build t parts => match P.underlying t with
  | some (.struct fs) => tb (bp P t) fun z => tb (iB P fs.toList) fun ps => (cA (ps[·]?) z.cells.toList (parts.toList.map fun p => (p.1, ev p.2))).bind fun cs => k (.agg cs.toArray) H
  | some (.array _ el) => tb (bp P t) fun z => tb (bY P el) fun e => (cA (fun i => some (i * e, e)) z.cells.toList (parts.toList.map fun p => (p.1, ev p.2))).bind fun cs => k (.agg cs.toArray) H
  | _ => none
 | .buildSlice t len parts => tb (bQ P t) fun el => tb (bY P el) fun e => tb (bp P el) fun z =>
  if 0 < e ∧ z.cells.size = e ∧ len * e ≤ 2 ^ 24 then
   (cA (fun i => some (i * e, e)) (List.replicate len z.cells.toList).flatten (parts.toList.map fun p => (p.1, ev p.2))).bind fun cs => k (.slice (some ⟨H.size, 0, none⟩) len e) (H.push (.cells false cs))
  else none
 | .load t a => tb (d9 P t) fun g => match g with
  | some n => (aB n (ev a) H).bind fun v => k v H
  | none => (am (ev a) H).bind fun v => k v H
 | .store t a x => tb (bY P t) fun n => (dg n (ev a) (ev x) H).bind fun H' => k undef H'
 | .nilCheck x => (sn (ev x)).bind fun v => k v H
 | .binOp op t x y _ => (ak (wy P t) op (ev x) (ev y)).bind fun v => k v H
 | .unOp op _ x => (pw op (ev x)).bind fun v => k v H
 | .convert src dst x => match P.underlying src with
  | some _ => (bO (o5 P dst) (ev x)).bind fun v => k v H
  | none => none
 | .makeFunc fn first captured => k (.func fn (first.map ev) (captured.map ev)) H
 | .makeMap _ none => k (.map (some H.size)) (H.push (.map [] 0))
 | .makeSlice t l c => tb (bQ P t) fun el => tb (bY P el) fun e => tb (eI P el) fun by' => tb (bp P el) fun z => (jV z.cells.toList e by' (ev l) (ev c) H).bind fun r => k r.1 r.2
 | .slice t x lo hi none => tb (bQ P t) fun el => tb (bY P el) fun e => (dY e (ev x) (lo.map ev) (hi.map ev)).bind fun v => k v H
 | .slice t x none (some hi) (some mx) => tb (bQ P t) fun el => tb (bY P el) fun _ => (iA (ev x) (ev hi) (ev mx)).bind fun v => k v H
 | .fieldAddr s x f => tb (jf P s f) fun f => tb (bY P f.type) fun n => if n = 0 then none else (BA f.offset (ev x)).bind fun v => k v H
 | .field s x f => tb (jf P s f) fun f => tb (d9 P f.type) fun n => (jC n f.offset (ev x)).bind fun v => k v H
 | .indexAddr t x i => match P.underlying t with
  | some (.slice el) => tb (bY P el) fun e => (mW e (ev x) (ev i)).bind fun v => k v H
  | some (.array len el) => tb (bY P el) fun e => (hF len e (ev x) (ev i)).bind fun v => k v H
  | _ => none
 | .index t x i => match P.underlying t with
  | some (.array len el) => tb (bY P el) fun e => tb (d9 P el) fun n => (iz len n e (ev x) (ev i)).bind fun v => k v H
  | some .string => (iy (ev x) (ev i)).bind fun v => k v H
  | _ => none
 | .lookup t m key ok => tb (bS P t) fun kt => tb (cf P kt.1) fun fl => tb (bp P kt.2) fun z => (b7 fl z (ev m) (ev key) ok H).bind fun v => k v H
 | .mapUpdate t m key x => tb (bS P t) fun kt => tb (cf P kt.1) fun fl => (dv fl (ev m) (ev key) (ev x) H).bind fun H' => k undef H'
 | .extract t i => (ai (ev t) i).bind fun v => k v H
 | .call c => match c.callee with
  | .builtin b => y7 P b c.argTypes (c.args.toList.map ev) H k
  | .value f => (b6 (ev f) (c.args.toList.map ev)).bind fun fa => (call fa.1 fa.2 H).bind fun r => k r.1 r.2
  | _ => none
 | _ => none
theorem ft {α β γ : Type} (x : Option α) (b : β) (k : α → β → Option γ) : ((x.map (·, b)).bind fun r => k r.1 r.2) = x.bind fun v => k v b := by cases x <;> rfl
theorem vz {β γ : Type} (x : Option β) (v : Value) (k : Value → β → Option γ) : ((x.map fun H' => (v, H')).bind fun r => k r.1 r.2) = x.bind fun H' => k v H' := by cases x <;> rfl
theorem C4 (P : Program) (b : Builtin) (ts : Array TypeId) (args : List Value) (H : AH) (k : Value → AH → Option R) : fE P b ts args H k = (ca P b ts args H).bind fun r => k r.1 r.2 := by
 cases b with
 | len =>
  match args with
  | [] => rfl
  | [x] =>
   simp only [fE, ca]
   cases (ts[0]?).bind fun t => P.underlying t with
   | none => rfl
   | some d => cases d <;> first | rfl | (cases x <;> rfl) | (simp only [ft])
  | x :: y :: zs => rfl
 | max => simp only [fE, ca, ft]
 | min => simp only [fE, ca, ft]
 | append =>
  match args with
  | [] => rfl
  | [x] => rfl
  | [s, x] =>
   simp only [fE, ca, Option.bind_assoc]
   congr 1; funext t; congr 1; funext el; congr 1; funext e; congr 1; funext b; congr 1; funext z
   split
   ·rfl
   ·rfl
  | x :: y :: z :: zs => rfl
 | delete =>
  match args with
  | [] => rfl
  | [x] => rfl
  | [s, x] => simp only [fE, ca, Option.bind_assoc, vz]
  | x :: y :: z :: zs => rfl
 | _ => rfl
theorem WK (P : Program) (call : a7) (ev : Operand → Value) (o : Oper) (H : AH) (k : Value → AH → Option R) : oh P call ev o H k = (dx P call ev o H).bind fun r => k r.1 r.2 := by
 obtain ⟨dst, op, type, pos, after, guard⟩ := o
 cases op with
 | call c =>
  obtain ⟨callee, args, ats⟩ := c
  cases callee with
  | value f => simp only [oh, dx, Option.bind_assoc]
  | invoke r m => rfl
  | builtin b => simp only [oh, dx]; exact C4 ..
 | makeMap t r => cases r <;> rfl
 | slice t x lo hi mx =>
  cases mx with
  | none => simp only [oh, dx, Option.bind_assoc, ft]
  | some m => cases lo <;> cases hi <;> first | rfl | (simp only [oh, dx, Option.bind_assoc, ft])
 | load t a =>
  simp only [oh, dx, Option.bind_assoc]
  congr 1
  funext g
  cases g <;> simp only [ft]
 | build t parts =>
  simp only [oh, dx]
  cases P.underlying t with
  | none => rfl
  | some d => cases d <;> first | rfl | (simp only [Option.bind_assoc, Option.bind_map]; rfl)
 | buildSlice t len parts =>
  simp only [oh, dx, Option.bind_assoc]
  congr 1; funext el; congr 1; funext e; congr 1; funext z
  split
  ·rw [Option.bind_map]; rfl
  ·rfl
 | fieldAddr s x f =>
  simp only [oh, dx, Option.bind_assoc]
  congr 1; funext el; congr 1; funext e
  split
  ·rfl
  ·rw [ft]
 | alloc t => simp only [oh, dx, Option.bind_map]; rfl
 | indexAddr t x i =>
  simp only [oh, dx]
  cases P.underlying t with
  | none => rfl
  | some d => cases d <;> first | rfl | (simp only [Option.bind_assoc, ft])
 | index t x i =>
  simp only [oh, dx]
  cases P.underlying t with
  | none => rfl
  | some d => cases d <;> first | rfl | (simp only [Option.bind_assoc, ft])
 | convert s d x =>
  simp only [oh, dx]
  cases P.underlying s with
  | none => rfl
  | some d => simp only [ft]
 | store t x y => simp only [oh, dx, Option.bind_assoc, vz]
 | mapUpdate t m key x => simp only [oh, dx, Option.bind_assoc, vz]
 | _ => first | rfl | (simp only [oh, dx, Option.bind_assoc, ft]; done)
theorem HU (P : Program) (b : Builtin) (ts : Array TypeId) (args : List Value) (H : AH) (k : Value → AH → Option R) : y7 P b ts args H k = fE P b ts args H k := by
 unfold y7 fE;simp only [Hj]
theorem Z8 (P : Program) (call : a7) (ev : Operand → Value) (o : Oper) (H : AH) (k : Value → AH → Option R) : Y3 P call ev o H k = oh P call ev o H k := by
 unfold Y3 oh;simp only [Hj, HU]
theorem RK (P : Program) (call : a7) (ev : Operand → Value) (o : Oper) (H : AH) (k : Value → AH → Option R) : Y3 P call ev o H k = (dx P call ev o H).bind fun r => k r.1 r.2 := (Z8 ..).trans (WK ..)
def Ej (op : Op) : Bool := jE op == 0 || jE op == 2
theorem PV {P : Program} {call : a7} {ev : Operand → Value} {o : Oper} {H : AH} (h : Ej o.op = true) : dx P call ev o H = (Y3 P call ev o H fun v _ => some v).map (·, H) := by
 rw [RK]
 cases hx : dx P call ev o H with
 | none => rfl
 | some r =>
  obtain ⟨v, H'⟩ := r;simp only [be, dD];unfold Ej at h;simp only [Bool.or_eq_true, beq_iff_eq] at h
  rcases h with h | h
  ·rw [(sU h hx).1]
  ·rw [yO h] at hx
   obtain ⟨y, _, e⟩ := aM.1 hx;rw [(Prod.mk.inj e).2]
abbrev Lg (P : Program) (G : List Nat) (call : a7) (ops : Array Oper) (o : Oper) (A : List Value) (H : AH) (k : List Value → AH → Option R) : Option R :=
 match o.op.operands.toList.all (HD G) with
 | true => match o.guard with
  | none => Y3 P call (ed A) o H fun v H' => k (jY A o.dst v) H'
  | some g => match Ej o.op with
   | true => (match cN ops A g.1 == some g.2 with
    | true => Y3 P call (ed A) o H fun v _ => some v
    | false => some undef).bind fun v => k (jY A o.dst v) H
   | false => (match cN ops A g.1 == some g.2 with
    | true => dx P call (ed A) o H
    | false => some (undef, H)).bind fun r => k (jY A o.dst r.1) r.2
 | false => none
theorem FK (P : Program) (G : List Nat) (call : a7) (ops : Array Oper) (o : Oper) (A : List Value) (H : AH) (k : List Value → AH → Option R) : Lg P G call ops o A H k = (fi P G call ops o A H).bind fun s => k s.1 s.2 := by
 unfold Lg fi
 cases o.op.operands.toList.all (HD G) with
 | false => rfl
 | true =>
  simp only [if_true];unfold Region.wanted
  cases o.guard with
  | none =>
   simp only [if_true];rw [RK, Option.bind_map]; rfl
  | some g =>
   obtain ⟨g, want⟩ := g;simp only
   cases hl : Ej o.op with
   | true =>
    simp only
    by_cases h : (cN ops A g == some want) = true
    ·rw [if_pos h, h, PV hl]
     simp only
     cases (Y3 P call (ed A) o H fun v _ => some v) <;> rfl
    ·rw [if_neg h, Bool.eq_false_iff.2 h]; rfl
   | false =>
    simp only
    by_cases h : (cN ops A g == some want) = true
    ·rw [if_pos h, h, Option.bind_map]; rfl
    ·rw [if_neg h, Bool.eq_false_iff.2 h]; rfl
abbrev RL (P : Program) (G : List Nat) (call : a7) (ops : Array Oper) : List Oper → List Value → AH → (List Value → AH → Option R) → Option R
 | [], A, H, k => k A H
 | o :: rest, A, H, k => Lg P G call ops o A H fun A' H' => RL P G call ops rest A' H' k
theorem Le (P : Program) (G : List Nat) (call : a7) (ops : Array Oper) : ∀ (l : List Oper) (A : List Value) (H : AH) (k : List Value → AH → Option R), RL P G call ops l A H k = (cr P G call ops l A H).bind fun s => k s.1 s.2 := by
 intro l
 induction l with
 | nil => intro A H k; rfl
 | cons o l ih =>
  intro A H k;simp only [RL, cr];rw [FK, Option.bind_assoc]
  congr 1
  funext s
  exact ih _ _ _
noncomputable def bw {R : Type} (x y : Option Value) (k : Option R) : Option R := FL (x = y) k
theorem Zc {R : Type} {x y : Option Value} (h : x = y) (k : Option R) : bw x y k = k := jr h k
noncomputable abbrev Oa {R : Type} (j : Nat) (hist : List ((AH → Option Value) × AH)) (rd : AH → Option Value) (H H' : AH) (k : Option R) : List (Nat × Nat) → Option R
 | [] => k
 | pq :: rest => match pq.1 == j with
  | true => match Nat.blt pq.2 j with
   | true => match hist[pq.2]? with
    | some h => bw (rd h.2) (rd H) (Oa j hist rd H H' k rest)
    | none => none
   | false => Oa j hist rd H H' k rest
  | false => match pq.2 == j with
   | true => match Nat.blt pq.1 j with
    | true => match hist[pq.1]? with
     | some h => bw (h.1 H') (h.1 h.2) (Oa j hist rd H H' k rest)
     | none => none
    | false => Oa j hist rd H H' k rest
   | false => Oa j hist rd H H' k rest
theorem FM {α β : Type} (p : Prop) (x : Option α) (k : α → Option β) : (FL p x).bind k = FL p (x.bind k) := by unfold FL; split <;> rfl
theorem RS {α β : Type} {j : Nat} {hist : List ((AH → Option Value) × AH)} {rd : AH → Option Value} {H H' : AH} (x : Option α) (k : α → Option β) : ∀ l, (Oa j hist rd H H' x l).bind k = Oa j hist rd H H' (x.bind k) l := by
 intro l
 induction l with
 | nil => rfl
 | cons p l ih =>
  simp only [Oa]
  cases p.1 == j with
  | true =>
   cases Nat.blt p.2 j with
   | true =>
    simp only
    cases hist[p.2]? with
    | none => rfl
    | some h => simp only [bw]; rw [FM, ih]
   | false => exact ih
  | false =>
   cases p.2 == j with
   | true =>
    cases Nat.blt p.1 j with
    | true =>
     simp only
     cases hist[p.1]? with
     | none => rfl
     | some h => simp only [bw]; rw [FM, ih]
    | false => exact ih
   | false => exact ih
def Rb (j : Nat) (hist : List ((AH → Option Value) × AH)) (rd : AH → Option Value) (H H' : AH) (p : Nat × Nat) : Prop :=
 (p.1 = j → p.2 < j → ∃ h, hist[p.2]? = some h ∧ rd h.2 = rd H) ∧ (p.2 = j → p.1 < j → ∃ h, hist[p.1]? = some h ∧ h.1 H' = h.1 h.2)
theorem Li {α : Type} {p : Prop} {x : Option α} {r : α} : FL p x = some r ↔ p ∧ x = some r := ⟨mq, fun h => by rw [jr h.1]; exact h.2⟩
theorem Lk {α : Type} {j : Nat} {hist : List ((AH → Option Value) × AH)} {rd : AH → Option Value} {H H' : AH} {x : Option α} {r : α} : ∀ {l}, Oa j hist rd H H' x l = some r ↔ (∀ p ∈ l, Rb j hist rd H H' p) ∧ x = some r := by
 intro l
 induction l with
 | nil => simp [Oa]
 | cons p l ih =>
  have split : (∀ q ∈ p :: l, Rb j hist rd H H' q) ↔ Rb j hist rd H H' p ∧ ∀ q ∈ l, Rb j hist rd H H' q := by simp
  rw [split, and_assoc, ← ih];simp only [Oa]
  by_cases h1 : p.1 = j
  ·have e1 : (p.1 == j) = true := by simpa using h1
   rw [e1];simp only
   by_cases h2 : p.2 < j
   ·have e2 : Nat.blt p.2 j = true := by simpa [Nat.blt_eq] using h2
    rw [e2];simp only
    have hn : ¬ p.2 = j := by omega
    unfold Rb
    cases hist[p.2]? with
    | none => simp [h1, h2]
    | some h => simp only [bw]; rw [Li]; simp [h1, h2, hn]
   ·have e2 : Nat.blt p.2 j = false := by rw [Bool.eq_false_iff]; intro h; exact h2 (by simpa [Nat.blt_eq] using h)
    rw [e2];simp only;have : Rb j hist rd H H' p := ⟨fun _ h => absurd h h2, fun _ h => absurd h (by omega)⟩;simp [this]
  ·have e1 : (p.1 == j) = false := by simpa using h1
   rw [e1];simp only
   by_cases h2 : p.2 = j
   ·have e2 : (p.2 == j) = true := by simpa using h2
    rw [e2];simp only
    by_cases h3 : p.1 < j
    ·have e3 : Nat.blt p.1 j = true := by simpa [Nat.blt_eq] using h3
     rw [e3];simp only;unfold Rb
     cases hist[p.1]? with
     | none => simp [h1, h2, h3]
     | some h => simp only [bw]; rw [Li]; simp [h1, h2, h3]
    ·have e3 : Nat.blt p.1 j = false := by rw [Bool.eq_false_iff]; intro h; exact h3 (by simpa [Nat.blt_eq] using h)
     rw [e3];simp only;have : Rb j hist rd H H' p := ⟨fun h => absurd h h1, fun _ h => absurd h h3⟩;simp [this]
   ·have e2 : (p.2 == j) = false := by simpa using h2
    rw [e2];simp only;have : Rb j hist rd H H' p := ⟨fun h => absurd h h1, fun h => absurd h h2⟩;simp [this]
abbrev E4 (P : Program) (A : List Value) (o : Oper) : AH → Option Value := fun H => yP P (ed A) o.op H
noncomputable def oD (P : Program) (G : List Nat) (call : a7) (ops : Array Oper) (pairs : List (Nat × Nat)) : List Oper → Nat → List ((AH → Option Value) × AH) → List Value → AH → Option (List Value × AH)
 | [], _, _, A, H => some (A, H)
 | o :: rest, j, hist, A, H => (fi P G call ops o A H).bind fun s => Oa j hist (E4 P A o) H s.2 (oD P G call ops pairs rest (j + 1) (hist ++ [(E4 P A o, H)]) s.1 s.2) pairs
noncomputable abbrev Ld (P : Program) (G : List Nat) (call : a7) (ops : Array Oper) (pairs : List (Nat × Nat)) : List Oper → Nat → List ((AH → Option Value) × AH) → List Value → AH → (List Value → AH → Option R) → Option R
 | [], _, _, A, H, k => k A H
 | o :: rest, j, hist, A, H, k => Lg P G call ops o A H fun A' H' => Oa j hist (E4 P A o) H H' (Ld P G call ops pairs rest (j + 1) (hist ++ [(E4 P A o, H)]) A' H' k) pairs
theorem RM (P : Program) (G : List Nat) (call : a7) (ops : Array Oper) (pairs : List (Nat × Nat)) : ∀ (l : List Oper) (j : Nat) (hist : List ((AH → Option Value) × AH)) (A : List Value) (H : AH) (k : List Value → AH → Option R), Ld P G call ops pairs l j hist A H k = (oD P G call ops pairs l j hist A H).bind fun s => k s.1 s.2 := by
 intro l
 induction l with
 | nil => intro j hist A H k; rfl
 | cons o l ih =>
  intro j hist A H k;simp only [Ld, oD];rw [FK, Option.bind_assoc]
  congr 1
  funext s
  rw [RS, ih]
theorem NX {P : Program} {G : List Nat} {call : a7} {ops : Array Oper} {pairs : List (Nat × Nat)} {A0 : List Value} {H0 : AH} {r0 : List Value × AH} (h0 : cr P G call ops ops.toList A0 H0 = some r0) (hp : ∀ p ∈ pairs, p.1 < ops.size ∧ p.2 < ops.size ∧ p.1 ≠ p.2) :
 ∀ (l : List Oper) (j : Nat) (hist : List ((AH → Option Value) × AH)), ops.toList.drop j = l → hist.length = j → (∀ i, i < j → ∃ o, ops[i]? = some o ∧ hist[i]? = some (E4 P (iL P G call ops A0 H0 i).1 o, (iL P G call ops A0 H0 i).2)) →
  ∀ r, oD P G call ops pairs l j hist (iL P G call ops A0 H0 j).1 (iL P G call ops A0 H0 j).2 = some r ↔ (∀ p ∈ pairs, j ≤ max p.1 p.2 → iR P (iL P G call ops A0 H0) ops p) ∧ r = r0 := by
 intro l
 induction l with
 | nil =>
  intro j hist hl hlen hh r
  have hj : ops.size ≤ j := by
   have := congrArg List.length hl;simp at this; omega
  have hst : iL P G call ops A0 H0 j = r0 := by
   unfold iL;rw [List.take_of_length_le (by simpa using hj), h0]; rfl
  simp only [oD, hst]
  constructor
  ·intro e
   exact ⟨fun p hpm hm => absurd (hp p hpm) (by omega), (fg e).symm⟩
  ·rintro ⟨_, rfl⟩; rfl
 | cons o l ih =>
  intro j hist hl hlen hh r
  have hj : ops.toList[j]? = some o := by
   have := congrArg (·[0]?) hl
   simpa using this
  have ho : ops[j]? = some o := by simpa using hj
  have hjs : j < ops.size := by
   have := (Em.1 hj).1
   simpa using this
  have hstep := G8 h0 ho
  have hl' : ops.toList.drop (j + 1) = l := by
   have := congrArg (List.drop 1) hl
   simpa [List.drop_drop, Nat.add_comm] using this
  have hh' : ∀ i, i < j + 1 → ∃ o', ops[i]? = some o' ∧ (hist ++ [(E4 P (iL P G call ops A0 H0 j).1 o, (iL P G call ops A0 H0 j).2)])[i]? = some (E4 P (iL P G call ops A0 H0 i).1 o', (iL P G call ops A0 H0 i).2) := by
   intro i hi
   by_cases e : i = j
   ·subst e
    exact ⟨o, ho, by rw [List.getElem?_append_right (by omega)]; simp [hlen]⟩
   ·obtain ⟨o', h1, h2⟩ := hh i (by omega)
    exact ⟨o', h1, by rw [List.getElem?_append_left (by omega)]; exact h2⟩
  have hi := ih (j + 1) _ hl' (by simp [hlen]) hh' r;simp only [oD];rw [hstep];simp only [be];rw [Lk, hi]
  have key : ∀ p ∈ pairs, max p.1 p.2 = j → (Rb j hist (E4 P (iL P G call ops A0 H0 j).1 o) (iL P G call ops A0 H0 j).2 (iL P G call ops A0 H0 (j + 1)).2 p ↔ iR P (iL P G call ops A0 H0) ops p) := by
   intro p hpm hm;obtain ⟨h1, h2, h3⟩ := hp p hpm;unfold Rb iR
   by_cases hlt : p.2 < p.1
   ·have e1 : p.1 = j := by omega
    obtain ⟨o2, _, hg⟩ := hh p.2 (by omega);rw [if_pos hlt]
    constructor
    ·intro ⟨a, _⟩ o' ho'
     rw [e1, ho] at ho';cases ho';obtain ⟨h, hg', e⟩ := a e1 (by omega);rw [hg] at hg';cases hg';rw [e1];exact e
    ·intro a
     refine ⟨fun _ _ => ⟨_, hg, ?_⟩, fun e => absurd e (by omega)⟩;have := a o (by rw [e1]; exact ho);rw [e1] at this;exact this
   ·have e2 : p.2 = j := by omega
    obtain ⟨o1, ho1, hg⟩ := hh p.1 (by omega);rw [if_neg hlt, e2]
    constructor
    ·intro ⟨_, a⟩ o' ho'
     rw [ho1] at ho';cases ho';obtain ⟨h, hg', e⟩ := a rfl (by omega);rw [hg] at hg';cases hg';exact e
    ·intro a
     refine ⟨fun e => absurd e (by omega), fun _ _ => ⟨_, hg, a o1 ho1⟩⟩
  have out : ∀ p ∈ pairs, max p.1 p.2 ≠ j → Rb j hist (E4 P (iL P G call ops A0 H0 j).1 o) (iL P G call ops A0 H0 j).2 (iL P G call ops A0 H0 (j + 1)).2 p := by
   intro p hpm hm;exact ⟨fun h1 h2 => absurd hm (by omega), fun h1 h2 => absurd hm (by omega)⟩
  constructor
  ·rintro ⟨a, b, c⟩
   refine ⟨fun p hpm hm => ?_, c⟩
   by_cases e : max p.1 p.2 = j
   ·exact (key p hpm e).1 (a p hpm)
   ·exact b p hpm (by omega)
  ·rintro ⟨a, c⟩
   refine ⟨fun p hpm => ?_, fun p hpm hm => a p hpm (by omega), c⟩
   by_cases e : max p.1 p.2 = j
   ·exact (key p hpm e).2 (a p hpm (by omega))
   ·exact out p hpm e
theorem HM {P : Program} {G : List Nat} {call : a7} {ops : Array Oper} {pairs : List (Nat × Nat)} : ∀ (l : List Oper) (j : Nat) (hist : List ((AH → Option Value) × AH)) (A : List Value) (H : AH) (r : List Value × AH), oD P G call ops pairs l j hist A H = some r → cr P G call ops l A H = some r := by
 intro l
 induction l with
 | nil => intro j hist A H r h; exact h
 | cons o l ih =>
  intro j hist A H r h;simp only [oD] at h;obtain ⟨s, hs, h⟩ := aC.1 h;simp only [cr];rw [hs];exact ih _ _ _ _ _ (Lk.1 h).2
theorem Er {ops : Array Oper} : ∀ p ∈ cT ops.toList, p.1 < ops.size ∧ p.2 < ops.size ∧ p.1 ≠ p.2 := by
 intro p hp;unfold cT at hp;simp only [List.mem_flatMap, List.mem_filter, List.mem_map] at hp;obtain ⟨x, ⟨hx, hx2⟩, y, ⟨hy, hy2⟩, rfl⟩ := hp;have hx := List.mem_zipIdx hx;have hy := List.mem_zipIdx hy;simp only [beq_iff_eq] at hx2;simp only [Bool.and_eq_true, beq_iff_eq] at hy2;refine ⟨by have := hx.2.1; simpa using this, by have := hy.2.1; simpa using this, ?_⟩;intro e;simp only at e;have e3 := hy2.1.1;have ex := hx.2.2;have ey := hy.2.2;simp only [e, Nat.sub_zero] at ex ey
 have : x.1 = y.1 := by rw [ex, ey]
 rw [this, e3] at hx2;cases hx2
theorem HW {P : Program} {G : List Nat} {call : a7} {ops : Array Oper} {pairs : List (Nat × Nat)} (hp : ∀ p ∈ pairs, p.1 < ops.size ∧ p.2 < ops.size ∧ p.1 ≠ p.2) (A : List Value) (H : AH) :
 FL (∀ q ∈ pairs, iR P (iL P G call ops A H) ops q) (cr P G call ops ops.toList A H) = oD P G call ops pairs ops.toList 0 [] A H := by
 cases hx : cr P G call ops ops.toList A H with
 | none =>
  cases hy : oD P G call ops pairs ops.toList 0 [] A H with
  | none => unfold FL; split <;> rfl
  | some r => have := HM _ _ _ _ _ _ hy; rw [hx] at this; cases this
 | some r0 =>
  have hi := NX hx hp ops.toList 0 [] rfl rfl (fun i hi => absurd hi (by omega));simp only [Vx] at hi
  cases hy : oD P G call ops pairs ops.toList 0 [] A H with
  | none =>
   cases hz : FL (∀ q ∈ pairs, iR P (iL P G call ops A H) ops q) (some r0) with
   | none => rfl
   | some r =>
    obtain ⟨h1, h2⟩ := mq hz;have := (hi r0).2 ⟨fun p hpm _ => h1 p hpm, rfl⟩;rw [hy] at this; cases this
  | some r =>
   obtain ⟨h1, h2⟩ := (hi r).1 hy;rw [jr (fun p hpm => h1 p hpm (by omega)), h2]
noncomputable abbrev C5 (P : Program) (G : List Nat) (call : a7) (ops : Array Oper) (draw : Bool) (A : List Value) (H : AH) (k : List Value → AH → Option R) : Option R :=
 match draw with
 | false => RL P G call ops ops.toList A H k
 | true => match rA ops.toList with
  | false => none
  | true => match cT ops.toList with
   | [] => RL P G call ops ops.toList A H k
   | p :: ps => Ld P G call ops (p :: ps) ops.toList 0 [] A H k
theorem HV (P : Program) (G : List Nat) (call : a7) (ops : Array Oper) (draw : Bool) (A : List Value) (H : AH) (k : List Value → AH → Option R) : C5 P G call ops draw A H k = (eX P G call ops draw A H).bind fun s => k s.1 s.2 := by
 unfold C5 eX ly
 cases draw with
 | false => exact Le ..
 | true =>
  simp only
  cases rA ops.toList with
  | false => rfl
  | true =>
   simp only
   cases hl : cT ops.toList with
   | nil => exact Le ..
   | cons p ps =>
    simp only;rw [HW (fun q hq => Er q (by rw [hl]; exact hq)), RM]
def WP (kn : List Value → AH → Option R) (kx : Nat → List Value → AH → Option R) (kr : List Value → AH → Option R) (r : AR) : Option R :=
 match r.1 with
 | .normal => kn r.2.1 r.2.2
 | .exit i => kx i r.2.1 r.2.2
 | .ret => kr r.2.1 r.2.2
noncomputable def ie (P : Program) (G : List Nat) (call : a7) (x : Code) (A : List Value) (H : AH) (kx : Nat → List Value → AH → Option R) (kr : List Value → AH → Option R) : Option R :=
 (nS (aK P G call x) A H).bind (WP (fun _ _ => none) kx kr)
noncomputable abbrev aW (P : Program) (G : List Nat) (call : a7) : Code → List Value → AH → (List Value → AH → Option R) → (Nat → List Value → AH → Option R) → (List Value → AH → Option R) → Option R
 | .skip, A, H, kn, _, _ => kn A H
 | .label _, A, H, kn, _, _ => kn A H
 | .region _ ops draw, A, H, kn, _, _ => C5 P G call ops draw A H kn
 | .seq x y, A, H, kn, kx, kr => aW P G call x A H (fun A H => aW P G call y A H kn kx kr) kx kr
 | .cond c x y, A, H, kn, kx, kr => match ed A c with
  | .bool true => aW P G call x A H kn kx kr
  | .bool false => aW P G call y A H kn kx kr
  | _ => none
 | .block id x, A, H, kn, kx, kr => aW P G call x A H kn (fun i A H => if i = id then kn A H else kx i A H) kr
 | .loop x, A, H, _, kx, kr => ie P G call x A H kx kr
 | .exit id, A, H, _, kx, _ => kx id A H
 | .ret, A, H, _, _, kr => kr A H
 | _, _, _, _, _, _ => none
theorem NV {f : List Value → AH → Option AR} : ∀ {n : Nat} {A : List Value} {H : AH} {r : AR}, dI f n A H = some r → r.1 ≠ .normal := by
 intro n
 induction n with
 | zero => intro A H r h; cases h
 | succ n ih =>
  intro A H r h;simp only [dI] at h;obtain ⟨s, hs, h⟩ := aC.1 h
  split at h
  ·exact ih h
  ·rename_i e
   cases h;exact fun he => e he
theorem NW {f : List Value → AH → Option AR} {A : List Value} {H : AH} {r : AR} (h : nS f A H = some r) : r.1 ≠ .normal := by
 obtain ⟨n, hn⟩ := cq.1 h;exact NV hn
theorem s4 (P : Program) (G : List Nat) (call : a7) : ∀ (c : Code) (A : List Value) (H : AH) (kn : List Value → AH → Option R) (kx : Nat → List Value → AH → Option R) (kr : List Value → AH → Option R),
 aW P G call c A H kn kx kr = (aK P G call c A H).bind (WP kn kx kr) := by
 intro c
 induction c with
 | skip => intros; rfl
 | label => intros; rfl
 | exit => intros; rfl
 | ret => intros; rfl
 | region id ops draw =>
  intro A H kn kx kr;simp only [aW, aK];rw [HV, Option.bind_map]; rfl
 | seq x y ihx ihy =>
  intro A H kn kx kr;simp only [aW, aK];rw [ihx, Option.bind_assoc]
  congr 1
  funext r
  obtain ⟨e, A1, H1⟩ := r
  cases e with
  | normal => simp only [WP]; exact ihy ..
  | exit i => rfl
  | ret => rfl
 | cond c x y ihx ihy =>
  intro A H kn kx kr;simp only [aW, aK]
  generalize ed A c = v
  cases v with
  | bool b => cases b <;> first | exact ihx .. | exact ihy ..
  | _ => rfl
 | block id x ih =>
  intro A H kn kx kr;simp only [aW, aK];rw [ih, Option.bind_map]
  congr 1
  funext r
  obtain ⟨e, A1, H1⟩ := r
  cases e with
  | normal => rfl
  | exit i =>
   simp only [WP, Function.comp]
   split <;> rfl
  | ret => rfl
 | loop x ih =>
  intro A H kn kx kr;simp only [aW, aK, ie]
  cases h : nS (aK P G call x) A H with
  | none => rfl
  | some r =>
   simp only [be];have := NW h;obtain ⟨e, A1, H1⟩ := r
   cases e with
   | normal => exact absurd rfl this
   | exit i => rfl
   | ret => rfl
 | rangeFunc => intros; rfl
 | scope => intros; rfl
 | goto => intros; rfl
 | refuse => intros; rfl
theorem RF (P : Program) (G : List Nat) (call : a7) (x : Code) (A : List Value) (H : AH) (kx : Nat → List Value → AH → Option R) (kr : List Value → AH → Option R) :
 ie P G call x A H kx kr = aW P G call x A H (fun A H => ie P G call x A H kx kr) kx kr := by
 rw [s4];unfold ie;rw [Ru, Option.bind_assoc]
 congr 1
 funext r
 obtain ⟨e, A1, H1⟩ := r
 cases e <;> rfl
abbrev qZ (P : Program) (A : List Value) (H : AH) : List ResultVar → (List Value → Option R) → Option R
 | [], k => k []
 | .tmp t :: rs, k => qZ P A H rs fun vs => k (A[t]?.getD undef :: vs)
 | .cell a t :: rs, k => tb (d9 P t) fun g => match g with
  | some n => (aB n (A[a]?.getD undef) H).bind fun v => qZ P A H rs fun vs => k (v :: vs)
  | none => (am (A[a]?.getD undef) H).bind fun v => qZ P A H rs fun vs => k (v :: vs)
theorem RH (P : Program) (A : List Value) (H : AH) : ∀ (rs : List ResultVar) (k : List Value → Option R), qZ P A H rs k = (qW P A H rs).bind k := by
 intro rs
 induction rs with
 | nil => intro k; rfl
 | cons r rs ih =>
  intro k;simp only [qW, Option.bind_assoc, be]
  cases r with
  | tmp t =>
   simp only [qZ, jZ, be];rw [ih]
  | cell a t =>
   simp only [qZ, jZ, Option.bind_assoc, Hj]
   congr 1
   funext g
   cases g <;> (simp only; congr 1; funext v; rw [ih])
end
def tup : List Value → Value
 | [v] => v
 | vs => .tuple vs.toArray
abbrev ge (P : Program) (rs : List ResultVar) (A : List Value) (H : AH) : Option (Value × AH) := qZ P A H rs fun vs => some (tup vs, H)
noncomputable def Lb (P : Program) (G : List Nat) (call : a7) (n : Nat) (rs : List ResultVar) (c : Code) (args : List Value) (H : AH) : Option (Value × AH) :=
 aW P G call c (args ++ List.replicate (n - args.length) undef) H (ge P rs) (fun _ _ _ => none) (ge P rs)
theorem Lc (P : Program) (rs : List ResultVar) (A : List Value) (H : AH) : ge P rs A H = (ic P A H rs).map (·, H) := by
 unfold ge ic;rw [RH, Option.map_map]
 cases qW P A H rs with
 | none => rfl
 | some vs =>
  simp only [be, dD, Function.comp]
  congr 2
theorem RE (P : Program) (G : List Nat) (call : a7) (n : Nat) (rs : List ResultVar) (c : Code) (args : List Value) (H : AH) : Lb P G call n rs c args H = nR P G call n rs c args H := by
 unfold Lb nR;rw [s4]
 congr 1
 funext r
 obtain ⟨e, A1, H1⟩ := r
 cases e with
 | normal => exact Lc ..
 | exit i => rfl
 | ret => exact Lc ..
def bX (fn : Func) : Code := fn.body.getD .skip
theorem HL {P : Program} {G : List Nat} {f : Nat} {fn : Func} (hf : P.funcs[f]? = some fn) (hb : fn.body.isSome = true) (hn : (fn.name == "runtime.NumGoroutine") = false) (hd : jG (bX fn) = none) {args : List Value} {H : AH} {r : Value × AH}
 (h : Lb P G (aF P G) fn.ntmps fn.results.toList (bX fn) args H = some r) : aF P G f args H = some r := by
 cases hc : fn.body with
 | none => rw [hc] at hb; cases hb
 | some c =>
  rw [RE] at h;unfold bX at h hd;rw [hc] at h hd;exact Z2 hf hc (by simpa using hn) hd h
def Code.sub : Code → List Nat → Code
 | c, [] => c
 | .seq x _, 0 :: p => Code.sub x p
 | .seq _ y, 1 :: p => Code.sub y p
 | .cond _ x _, 2 :: p => Code.sub x p
 | .cond _ _ y, 3 :: p => Code.sub y p
 | .block _ x, 4 :: p => Code.sub x p
 | .loop x, 5 :: p => Code.sub x p
 | _, _ => .skip
def yv : Value → Option Bool
 | .bool b => some b
 | _ => none
def aV {R : Type} (cs : List Value) (H : AH) (k : Value → AH → Option R) : Option R := k (.pointer (some ⟨H.size, 0, none⟩)) (H.push (.cells false cs))
def aa4 {R : Type} (len e : Nat) (cs : List Value) (H : AH) (k : Value → AH → Option R) : Option R := k (.slice (some ⟨H.size, 0, none⟩) len e) (H.push (.cells false cs))
def Bx {R : Type} (H : AH) (k : Value → AH → Option R) : Option R := k (.map (some H.size)) (H.push (.map [] 0))
def fq {R : Type} (x : Value) (k : Value → Option R) : Option R :=
 match x with
 | .slice _ n _ => k (.int .i64 n)
 | _ => none
def Xx (x : Value) : Option Value :=
 match x with
 | .slice _ _ _ => ou x
 | _ => none
def ax {R : Type} (c : Value) (x y : Option R) : Option R :=
 match c with
 | .bool true => x
 | .bool false => y
 | _ => none
def uR {α : Type} (y : Option Bool) (want : Bool) (a b : Option α) : Option α :=
 match y == some want with
 | true => a
 | false => b
theorem UY (a b : Value) : aQ (.bool true) a b = some a := rfl
theorem nH (a b : Value) : aQ (.bool false) a b = some b := rfl
abbrev vi (n : Int) : Value := .int .i64 n
abbrev vw (n : Int) : Value := .int .u64 n
abbrev vu (n : Nat) : Value := .int .u64 (n : Int)
abbrev vb (b : Bool) : Value := .bool b
inductive Stp where
 | n
 | f (k : Nat)
 | i (e : Nat) (v : Value)
 | a (len e : Nat) (v : Value)
def ad {R : Type} : List Stp → Value → (Value → Option R) → Option R
 | [], a, k => k a
 | .n :: p, a, k => (sn a).bind fun a => ad p a k
 | .f o :: p, a, k => (BA o a).bind fun a => ad p a k
 | .i e v :: p, a, k => (mW e a v).bind fun a => ad p a k
 | .a len e v :: p, a, k => (hF len e a v).bind fun a => ad p a k
def ld {R : Type} (p : List Stp) (x : Value) (H : AH) (k : Value → Option R) : Option R := ad p x fun a => (am a H).bind k
def ldN {R : Type} (n : Nat) (p : List Stp) (x : Value) (H : AH) (k : Value → Option R) : Option R := ad p x fun a => (aB n a H).bind k
def st {R : Type} (n : Nat) (p : List Stp) (x v : Value) (H : AH) (k : AH → Option R) : Option R := ad p x fun a => (dg n a v H).bind k
def gB (c : Value) (want : Bool) (e : Option Value) : Option Value := uR (yv c) want (e.bind some) (some undef)
def gV (c : Value) (want : Bool) (e : Value) : Option Value := uR (yv c) want (some e) (some undef)
def gE (c : Value) (want : Bool) (H : AH) (e : Option (Value × AH)) : Option (Value × AH) := uR (yv c) want e (some (undef, H))
def yq {R : Type} (c : Value) (want : Bool) : List Stp → Value → (Value → Option R) → Option R
 | [], a, k => k a
 | .n :: p, a, k => (gB c want (sn a)).bind fun a => yq c want p a k
 | .f o :: p, a, k => (gB c want (BA o a)).bind fun a => yq c want p a k
 | .i e v :: p, a, k => (gB c want (mW e a v)).bind fun a => yq c want p a k
 | .a len e v :: p, a, k => (gB c want (hF len e a v)).bind fun a => yq c want p a k
def fH {R : Type} (c : Value) (want : Bool) (p : List Stp) (x : Value) (H : AH) (k : Value → Option R) : Option R := yq c want p x fun a => (gB c want (am a H)).bind k
def qz {R : Type} (c : Value) (want : Bool) (n : Nat) (p : List Stp) (x : Value) (H : AH) (k : Value → Option R) : Option R := yq c want p x fun a => (gB c want (aB n a H)).bind k
def im {R : Type} (ps : List (Nat × Nat)) (zero : List Value) (xs : List (Nat × Value)) (k : Value → Option R) : Option R := (cA (fun i => ps[i]?) zero xs).bind fun cs => k (.agg cs.toArray)
def XG (e : Nat) (i : Nat) : Option (Nat × Nat) := some (i * e, e)
def Af {R : Type} (len e : Nat) (zero : List Value) (xs : List (Nat × Value)) (H : AH) (k : Value → AH → Option R) : Option R := (cA (XG e) (List.replicate len zero).flatten xs).bind fun cs => aa4 len e cs H k
def gZ (D : Nat) (A A' : List Value) : Prop := A.length = A'.length ∧ ∀ t, D.testBit t = false → A[t]? = A'[t]?
def iN (D : Nat) : Nat → List Value → List Value
 | _, [] => []
 | i, v :: vs => (match D.testBit i with | true => undef | false => v) :: iN D (i + 1) vs
def clear (D : Nat) (A : List Value) : List Value := iN D 0 A
theorem uX (D : Nat) : ∀ (A : List Value) (i : Nat), (iN D i A).length = A.length := by
 intro A
 induction A with
 | nil => intro i; rfl
 | cons v vs ih => intro i; simp [iN, ih]
theorem Bn (D : Nat) : ∀ (A : List Value) (i t : Nat), D.testBit (i + t) = false → (iN D i A)[t]? = A[t]? := by
 intro A
 induction A with
 | nil => intro i t _; rfl
 | cons v vs ih =>
  intro i t h
  cases t with
  | zero => simp only [Nat.add_zero] at h; simp [iN, h]
  | succ t => simp only [iN, List.getElem?_cons_succ]; exact ih (i + 1) t (by rw [show i + 1 + t = i + (t + 1) from by omega]; exact h)
theorem g8 (D : Nat) (A : List Value) : gZ D A (clear D A) := ⟨(uX D A 0).symm, fun t h => (Bn D A 0 t (by simpa using h)).symm⟩
def au {R : Type} (D : Nat) (k : List Value → AH → Option R) : Prop := ∀ A A' H, gZ D A A' → k A H = k A' H
def opr (D : Nat) : Operand → Bool
 | .tmp t => !D.testBit t
 | _ => true
def KM (D : Nat) : Option Tmp → Nat
 | some d => match D.testBit d with | true => D ^^^ 2 ^ d | false => D
 | none => D
theorem X6 {D : Nat} {d : Option Tmp} {t : Nat} (h : D.testBit t = false) : (KM D d).testBit t = false := by
 unfold KM
 split
 ·split
  ·rename_i hd
   rw [Nat.testBit_xor, h, Nat.testBit_two_pow];simp;intro e;subst e; rw [h] at hd; cases hd
  ·exact h
 ·exact h
theorem X7 {D : Nat} {d : Option Tmp} {t : Nat} (h : (KM D d).testBit t = false) (hd : d ≠ some t) : D.testBit t = false := by
 unfold KM at h
 split at h
 ·rename_i d
  split at h
  ·rename_i hb
   rw [Nat.testBit_xor, Nat.testBit_two_pow] at h;have : ¬ d = t := fun e => hd (by rw [e])
   simpa [this] using h
  ·exact h
 ·exact h
def sk (D : Nat) (ops : Array Oper) (o : Oper) : Bool :=
 o.op.operands.toList.all (opr D) && match o.guard with
 | none => true
 | some g => match (ops[g.1]?).bind (·.dst) with
  | some t => !D.testBit t
  | none => true
def mV (ops : Array Oper) : List Oper → Nat → Option Nat
 | [], D => some D
 | o :: rest, D => match sk D ops o with
  | true => mV ops rest (KM D o.dst)
  | false => none
def qn : Code → Nat → Option Nat
 | .skip, D => some D
 | .label _, D => some D
 | .region _ ops _, D => mV ops ops.toList D
 | .seq x y, D => match qn x D with
  | some D1 => match qn y D1 with
   | some D2 => some D2
   | none => none
  | none => none
 | .cond c x y, D => match opr D c with
  | true => match qn x D, qn y D with
   | some D1, some D2 => some (D1 ||| D2)
   | _, _ => none
  | false => none
 | .block _ x, D => match qn x D with
  | some _ => some D
  | none => none
 | .loop x, D => match qn x D with
  | some _ => some D
  | none => none
 | .exit _, _ => some 0
 | .ret, _ => some 0
 | _, _ => none
section
variable {P : Program} {G : List Nat} {call : a7} {R : Type}
theorem gZ.mono {D D' : Nat} {A A' : List Value} (h : gZ D A A') (hm : ∀ t, D'.testBit t = false → D.testBit t = false) : gZ D' A A' := ⟨h.1, fun t ht => h.2 t (hm t ht)⟩
theorem gZ.ev {D : Nat} {A A' : List Value} (h : gZ D A A') {x : Operand} (hx : opr D x = true) : ed A x = ed A' x := by
 cases x with
 | tmp t => simp only [opr, Bool.not_eq_true'] at hx; simp only [ed]; rw [h.2 t hx]
 | _ => rfl
theorem gZ.put {D : Nat} {A A' : List Value} (h : gZ D A A') (d : Option Tmp) (v : Value) : gZ (KM D d) (jY A d v) (jY A' d v) := by
 refine ⟨by rw [lz, lz, h.1], fun t ht => ?_⟩
 by_cases hd : d = some t
 ·subst hd; rw [yb, yb, h.1]
 ·rw [sV hd, sV hd]; exact h.2 t (X7 ht hd)
theorem UK {ops : Array Oper} : ∀ {l : List Oper} {D D' : Nat}, mV ops l D = some D' → ∀ t, D.testBit t = false → D'.testBit t = false := by
 intro l
 induction l with
 | nil => intro D D' h t ht; simp only [mV] at h; cases h; exact ht
 | cons o l ih =>
  intro D D' h t ht;simp only [mV] at h
  split at h
  ·exact ih h t (X6 ht)
  ·cases h
theorem Ey : ∀ {c : Code} {D D' : Nat}, qn c D = some D' → ∀ t, D.testBit t = false → D'.testBit t = false := by
 intro c
 induction c with
 | skip => intro D D' h t ht; simp only [qn] at h; cases h; exact ht
 | label l => intro D D' h t ht; simp only [qn] at h; cases h; exact ht
 | region id ops draw => intro D D' h; simp only [qn] at h; exact UK h
 | seq x y ihx ihy =>
  intro D D' h t ht;simp only [qn] at h
  split at h
  ·rename_i D1 h1
   split at h
   ·rename_i D2 h2; cases h; exact ihy h2 t (ihx h1 t ht)
   ·cases h
  ·cases h
 | cond c x y ihx ihy =>
  intro D D' h t ht;simp only [qn] at h
  split at h
  ·split at h
   ·rename_i D1 D2 h1 h2; cases h
    rw [Nat.testBit_or, ihx h1 t ht, ihy h2 t ht]; rfl
   ·cases h
  ·cases h
 | block id x ih => intro D D' h t ht; simp only [qn] at h; split at h <;> cases h; exact ht
 | loop x ih => intro D D' h t ht; simp only [qn] at h; split at h <;> cases h; exact ht
 | exit id => intro D D' h t ht; simp only [qn] at h; cases h; simp
 | ret => intro D D' h t ht; simp only [qn] at h; cases h; simp
 | rangeFunc => intro D D' h; simp [qn] at h
 | scope => intro D D' h; simp [qn] at h
 | goto => intro D D' h; simp [qn] at h
 | refuse => intro D D' h; simp [qn] at h
inductive Both (D : Nat) : Option (List Value × AH) → Option (List Value × AH) → Prop
 | no : Both D none none
 | yes {A A' : List Value} (H : AH) (h : gZ D A A') : Both D (some (A, H)) (some (A', H))
theorem QK {ops : Array Oper} {o : Oper} {D : Nat} (ho : sk D ops o = true) {A A' : List Value} (h : gZ D A A') (H : AH) : Both (KM D o.dst) (fi P G call ops o A H) (fi P G call ops o A' H) := by
 unfold sk at ho;simp only [Bool.and_eq_true] at ho;have hev : ∀ x ∈ o.op.operands.toList, ed A x = ed A' x := fun x hx => h.ev (List.all_eq_true.1 ho.1 x hx)
 have hw : Region.wanted o (cN ops A) = Region.wanted o (cN ops A') := by
  unfold Region.wanted
  cases hg : o.guard with
  | none => rfl
  | some g =>
   obtain ⟨g, want⟩ := g;rw [hg] at ho
   have hy : cN ops A g = cN ops A' g := by
    unfold cN
    cases hd : (ops[g]?).bind (·.dst) with
    | none => rfl
    | some t =>
     have h2 := ho.2;simp only [hd, Bool.not_eq_true'] at h2;simp only [be];rw [h.2 t h2]
   simp only [hy]
 unfold fi;rw [hw, mo hev H]
 split
 ·split
  ·cases dx P call (ed A') o H with
   | none => exact .no
   | some r => exact .yes r.2 (h.put o.dst r.1)
  ·exact .yes H (h.put o.dst undef)
 ·exact .no
theorem tZ {ops : Array Oper} : ∀ {l : List Oper} {D D' : Nat}, mV ops l D = some D' → ∀ {A A' : List Value}, gZ D A A' → ∀ H, Both D' (cr P G call ops l A H) (cr P G call ops l A' H) := by
 intro l
 induction l with
 | nil => intro D D' h A A' hA H; simp only [mV] at h; cases h; exact .yes H hA
 | cons o l ih =>
  intro D D' h A A' hA H;simp only [mV] at h
  split at h
  ·rename_i ho
   simp only [cr];have := QK (P := P) (G := G) (call := call) ho hA H
   generalize fi P G call ops o A H = x at this
   generalize fi P G call ops o A' H = y at this
   cases this with
   | no => exact .no
   | yes H1 hA1 => exact ih h hA1 H1
  ·cases h
theorem JB {ops : Array Oper} : ∀ {l : List Oper} {D D' : Nat}, mV ops l D = some D' → ∀ i, ∃ Di, mV ops (l.take i) D = some Di ∧ ∀ o, l[i]? = some o → sk Di ops o = true := by
 intro l
 induction l with
 | nil => intro D D' h i; exact ⟨D, by cases i <;> rfl, fun o ho => by simp at ho⟩
 | cons o l ih =>
  intro D D' h i;simp only [mV] at h
  split at h
  ·rename_i ho
   cases i with
   | zero => exact ⟨D, rfl, fun o' ho' => by simp at ho'; subst ho'; exact ho⟩
   | succ i =>
    obtain ⟨Di, h1, h2⟩ := ih h i;refine ⟨Di, ?_, fun o' ho' => h2 o' (by simpa using ho')⟩;simp only [List.take_succ_cons, mV, ho];exact h1
  ·cases h
theorem Oc {ops : Array Oper} {D D' : Nat} (h : mV ops ops.toList D = some D') {A A' : List Value} (hA : gZ D A A') (H : AH) : Both D' (ly P G call ops A H) (ly P G call ops A' H) := by
 unfold ly
 split
 ·exact .no
 ·split
  ·exact tZ h hA H
  ·rename_i p ps hp
   have hb := tZ (P := P) (G := G) (call := call) h hA H
   have key : cr P G call ops ops.toList A H ≠ none → ((∀ q ∈ p :: ps, iR P (iL P G call ops A H) ops q) ↔ ∀ q ∈ p :: ps, iR P (iL P G call ops A' H) ops q) := by
    intro hne
    have hst : ∀ i, ∃ Di, gZ Di (iL P G call ops A H i).1 (iL P G call ops A' H i).1 ∧ (iL P G call ops A H i).2 = (iL P G call ops A' H i).2 ∧ ∀ o, ops[i]? = some o → sk Di ops o = true := by
     intro i;obtain ⟨Di, h1, h2⟩ := JB h i;have hbi := tZ (P := P) (G := G) (call := call) h1 hA H
     cases hx : cr P G call ops ops.toList A H with
     | none => exact absurd hx hne
     | some r =>
      have h3 := uF hx i;rw [h3] at hbi;unfold iL at hbi ⊢;rw [h3] at hbi ⊢
      generalize cr P G call ops (ops.toList.take i) A' H = y at hbi
      simp only [Option.getD_some] at hbi ⊢
      generalize hz : iL P G call ops A H i = z at hbi
      unfold iL at hz;rw [h3] at hz;simp only [Option.getD_some] at hz
      cases hbi with
      | yes H1 hA1 =>
       exact ⟨Di, hA1, rfl, fun o ho => h2 o (by simpa using ho)⟩
    have one : ∀ q, iR P (iL P G call ops A H) ops q ↔ iR P (iL P G call ops A' H) ops q := by
     intro q;unfold iR;obtain ⟨D1, a1, e1, o1⟩ := hst q.1;obtain ⟨D2, a2, e2, o2⟩ := hst (if q.2 < q.1 then q.2 else q.2 + 1)
     constructor
     ·intro hl o ho
      have hev : ∀ x ∈ o.op.operands.toList, ed (iL P G call ops A H q.1).1 x = ed (iL P G call ops A' H q.1).1 x := fun x hx => a1.ev (by
       have := o1 o ho;unfold sk at this;simp only [Bool.and_eq_true] at this
       exact List.all_eq_true.1 this.1 x hx)
      have := hl o ho;rw [pW hev, pW hev, e1, e2] at this;exact this
     ·intro hl o ho
      have hev : ∀ x ∈ o.op.operands.toList, ed (iL P G call ops A H q.1).1 x = ed (iL P G call ops A' H q.1).1 x := fun x hx => a1.ev (by
       have := o1 o ho;unfold sk at this;simp only [Bool.and_eq_true] at this
       exact List.all_eq_true.1 this.1 x hx)
      rw [pW hev, pW hev, e1, e2];exact hl o ho
    exact ⟨fun hl q hq => (one q).1 (hl q hq), fun hl q hq => (one q).2 (hl q hq)⟩
   have hn : cr P G call ops ops.toList A H = none → cr P G call ops ops.toList A' H = none := by
    intro e; rw [e] at hb; generalize cr P G call ops ops.toList A' H = y at hb; cases hb; rfl
   by_cases hne : cr P G call ops ops.toList A H = none
   ·rw [hne, hn hne]
    unfold FL
    have : ∀ (c : Prop) [Decidable c], (if c then (none : Option (List Value × AH)) else none) = none := fun c _ => by split <;> rfl
    rw [this, this]; exact .no
   ·unfold FL
    by_cases hc : ∀ q ∈ p :: ps, iR P (iL P G call ops A H) ops q
    ·rw [if_pos hc, if_pos ((key hne).1 hc)]; exact hb
    ·rw [if_neg hc, if_neg (fun h => hc ((key hne).2 h))]; exact .no
inductive BothR (D D' : Nat) : Option AR → Option AR → Prop
 | no : BothR D D' none none
 | normal {A A' : List Value} (H : AH) (h : gZ D' A A') : BothR D D' (some (.normal, A, H)) (some (.normal, A', H))
 | exit (i : Nat) {A A' : List Value} (H : AH) (h : gZ D A A') : BothR D D' (some (.exit i, A, H)) (some (.exit i, A', H))
 | ret {A A' : List Value} (H : AH) (h : gZ D A A') : BothR D D' (some (.ret, A, H)) (some (.ret, A', H))
theorem BS : ∀ {c : Code} {D D' : Nat}, qn c D = some D' → ∀ {A A' : List Value}, gZ D A A' → ∀ H, BothR D D' (aK P G call c A H) (aK P G call c A' H) := by
 intro c
 induction c with
 | skip => intro D D' h A A' hA H; simp only [qn] at h; cases h; exact .normal H hA
 | label l => intro D D' h A A' hA H; simp only [qn] at h; cases h; exact .normal H hA
 | exit id => intro D D' h A A' hA H; exact .exit id H hA
 | ret => intro D D' h A A' hA H; exact .ret H hA
 | region id ops draw =>
  intro D D' h A A' hA H;simp only [qn] at h;simp only [aK]
  have hb : Both D' (eX P G call ops draw A H) (eX P G call ops draw A' H) := by
   cases draw with
   | true => exact Oc h hA H
   | false => exact tZ h hA H
  generalize eX P G call ops draw A H = x at hb
  generalize eX P G call ops draw A' H = y at hb
  cases hb with
  | no => exact .no
  | yes H1 hA1 => exact .normal H1 hA1
 | seq x y ihx ihy =>
  intro D D' h A A' hA H;simp only [qn] at h
  split at h
  ·rename_i D1 h1
   split at h
   ·rename_i D2 h2
    cases h;simp only [aK];have hb := ihx h1 hA H
    generalize aK P G call x A H = u at hb
    generalize aK P G call x A' H = v at hb
    cases hb with
    | no => exact .no
    | normal H1 hA1 =>
     have hb2 := ihy h2 hA1 H1;simp only [be]
     rename_i A1 A1'
     generalize aK P G call y A1 H1 = u at hb2
     generalize aK P G call y A1' H1 = v at hb2
     cases hb2 with
     | no => exact .no
     | normal H2 hA2 => exact .normal H2 hA2
     | exit i H2 hA2 => exact .exit i H2 (hA2.mono (fun t ht => Ey h1 t ht))
     | ret H2 hA2 => exact .ret H2 (hA2.mono (fun t ht => Ey h1 t ht))
    | exit i H1 hA1 => exact .exit i H1 hA1
    | ret H1 hA1 => exact .ret H1 hA1
   ·cases h
  ·cases h
 | cond c x y ihx ihy =>
  intro D D' h A A' hA H;simp only [qn] at h
  split at h
  ·rename_i hc
   split at h
   ·rename_i D1 D2 h1 h2
    cases h;simp only [aK];rw [hA.ev hc]
    have m1 : ∀ t, (D1 ||| D2).testBit t = false → D1.testBit t = false := fun t ht => by rw [Nat.testBit_or, Bool.or_eq_false_iff] at ht; exact ht.1
    have m2 : ∀ t, (D1 ||| D2).testBit t = false → D2.testBit t = false := fun t ht => by rw [Nat.testBit_or, Bool.or_eq_false_iff] at ht; exact ht.2
    generalize ed A' c = v
    cases v with
    | bool b =>
     cases b with
     | true =>
      have hb := ihx h1 hA H;simp only
      generalize aK P G call x A H = u at hb
      generalize aK P G call x A' H = v at hb
      cases hb with
      | no => exact .no
      | normal H1 hA1 => exact .normal H1 (hA1.mono m1)
      | exit i H1 hA1 => exact .exit i H1 hA1
      | ret H1 hA1 => exact .ret H1 hA1
     | false =>
      have hb := ihy h2 hA H;simp only
      generalize aK P G call y A H = u at hb
      generalize aK P G call y A' H = v at hb
      cases hb with
      | no => exact .no
      | normal H1 hA1 => exact .normal H1 (hA1.mono m2)
      | exit i H1 hA1 => exact .exit i H1 hA1
      | ret H1 hA1 => exact .ret H1 hA1
    | _ => exact .no
   ·cases h
  ·cases h
 | block id x ih =>
  intro D D' h A A' hA H;simp only [qn] at h
  split at h <;> cases h
  rename_i D1 h1
  simp only [aK];have hb := ih h1 hA H
  generalize aK P G call x A H = u at hb
  generalize aK P G call x A' H = v at hb
  cases hb with
  | no => exact .no
  | normal H1 hA1 => exact .normal H1 (hA1.mono (fun t ht => Ey h1 t ht))
  | exit i H1 hA1 =>
   simp only [dD]
   split
   ·exact .normal H1 hA1
   ·exact .exit i H1 hA1
  | ret H1 hA1 => exact .ret H1 hA1
 | loop x ih =>
  intro D D' h A A' hA H;simp only [qn] at h
  split at h <;> cases h
  rename_i D1 h1
  simp only [aK]
  have it : ∀ n {A A' : List Value} (H : AH), gZ D A A' → BothR D D (dI (aK P G call x) n A H) (dI (aK P G call x) n A' H) := by
   intro n
   induction n with
   | zero => intro A A' H _; exact .no
   | succ n ihn =>
    intro A A' H hA;simp only [dI];have hb := ih h1 hA H
    generalize aK P G call x A H = u at hb
    generalize aK P G call x A' H = v at hb
    cases hb with
    | no => exact .no
    | normal H1 hA1 => exact ihn H1 (hA1.mono (fun t ht => Ey h1 t ht))
    | exit i H1 hA1 => exact .exit i H1 hA1
    | ret H1 hA1 => exact .ret H1 hA1
  cases hl : nS (aK P G call x) A H with
  | some r =>
   obtain ⟨n, hn⟩ := cq.1 hl;have hb := it n H hA;rw [hn] at hb
   cases hm : dI (aK P G call x) n A' H with
   | none => rw [hm] at hb; cases hb
   | some r' =>
    rw [cq.2 ⟨n, hm⟩];rw [hm] at hb;exact hb
  | none =>
   cases hl' : nS (aK P G call x) A' H with
   | none => exact .no
   | some r' =>
    obtain ⟨n, hn⟩ := cq.1 hl';have hb := it n H hA;rw [hn] at hb
    cases hm : dI (aK P G call x) n A H with
    | none => rw [hm] at hb; cases hb
    | some r => rw [cq.2 ⟨n, hm⟩] at hl; cases hl
 | rangeFunc => intro D D' h; simp [qn] at h
 | scope => intro D D' h; simp [qn] at h
 | goto => intro D D' h; simp [qn] at h
 | refuse => intro D D' h; simp [qn] at h
def BG (D D' : Nat) : Bool := D ||| D' == D'
theorem NC {D D' : Nat} (h : BG D D' = true) : ∀ t, D'.testBit t = false → D.testBit t = false := by
 intro t ht;unfold BG at h
 have e : D ||| D' = D' := by simpa using h
 rw [← e, Nat.testBit_or, Bool.or_eq_false_iff] at ht;exact ht.1
theorem au.le {D D' : Nat} {k : List Value → AH → Option R} (h : au D' k) (hs : BG D D' = true) : au D k := fun A A' H hA => h A A' H (hA.mono (NC hs))
def vG (c : Code) (D D' : Nat) : Bool := match qn c D with
 | some D1 => BG D1 D'
 | none => false
theorem Qx {c : Code} {D D' : Nat} {kn : List Value → AH → Option R} {kx : Nat → List Value → AH → Option R} {kr : List Value → AH → Option R} (h : vG c D D' = true) (hn : au D' kn) (hx : ∀ i, au D (kx i)) (hr : au D kr) :
 au D (fun A H => aW P G call c A H kn kx kr) := by
 intro A A' H hA;unfold vG at h
 split at h
 ·rename_i D1 h1
  simp only;rw [s4, s4];have hb := BS (P := P) (G := G) (call := call) h1 hA H
  generalize aK P G call c A H = u at hb
  generalize aK P G call c A' H = v at hb
  cases hb with
  | no => rfl
  | normal H1 hA1 => exact hn _ _ H1 (hA1.mono (NC h))
  | exit i H1 hA1 => exact hx i _ _ H1 hA1
  | ret H1 hA1 => exact hr _ _ H1 hA1
 ·cases h
theorem Qy {c : Code} {D : Nat} {kx : Nat → List Value → AH → Option R} {kr : List Value → AH → Option R} (h : vG c D D = true) (hx : ∀ i, au D (kx i)) (hr : au D kr) :
 au D (fun A H => ie P G call c A H kx kr) := by
 intro A A' H hA;unfold vG at h
 split at h
 ·rename_i D1 h1
  have hb := BS (P := P) (G := G) (call := call) (c := .loop c) (D := D) (D' := D) (by simp only [qn, h1]) hA H;simp only [aK] at hb;simp only [ie]
  generalize nS (aK P G call c) A H = u at hb
  generalize nS (aK P G call c) A' H = v at hb
  cases hb with
  | no => rfl
  | normal H1 hA1 => rfl
  | exit i H1 hA1 => exact hx i _ _ H1 hA1
  | ret H1 hA1 => exact hr _ _ H1 hA1
 ·cases h
def M3 (D : Nat) (rs : List ResultVar) : Bool := rs.all fun r => match r with
 | .tmp t => !D.testBit t
 | .cell a _ => !D.testBit a
theorem Qz {D : Nat} : ∀ {rs : List ResultVar} (_ : M3 D rs = true) (k : List Value → AH → Option R), au D (fun A H => qZ P A H rs fun vs => k vs H) := by
 intro rs
 induction rs with
 | nil => intro _ k A A' H hA; rfl
 | cons r rs ih =>
  intro h k A A' H hA;unfold M3 at h;simp only [List.all_cons, Bool.and_eq_true] at h
  cases r with
  | tmp t =>
   simp only [Bool.not_eq_true'] at h;simp only [qZ];rw [hA.2 t h.1];exact ih h.2 (fun vs H => k ((A'[t]?.getD undef) :: vs) H) A A' H hA
  | cell a t =>
   simp only [Bool.not_eq_true'] at h;simp only [qZ];rw [hA.2 a h.1, Hj, Hj]
   congr 1
   funext g
   cases g <;> (simp only; congr 1; funext v; exact ih h.2 (fun vs H => k (v :: vs) H) A A' H hA)
theorem Vi {D : Nat} {rs : List ResultVar} (h : M3 D rs = true) : au D (ge P rs) := Qz h fun vs H => some (tup vs, H)
theorem QA {D : Nat} : au D (fun (_ : List Value) (_ : AH) => (none : Option R)) := fun _ _ _ _ => rfl
theorem Kj {D id : Nat} {kn : List Value → AH → Option R} {kx : Nat → List Value → AH → Option R} (hn : au D kn) (hx : ∀ i, au D (kx i)) : ∀ i, au D (fun A H => if i = id then kn A H else kx i A H) := by
 intro i A A' H hA;simp only
 split
 ·exact hn _ _ _ hA
 ·exact hx i _ _ _ hA
theorem AI {D : Nat} {n : List Value → AH → Option R} (h : au D n) : au D (fun A H => n (clear D A) H) := by
 intro A A' H hA;simp only;rw [← h A (clear D A) H (g8 D A), ← h A' (clear D A') H (g8 D A')];exact h A A' H hA
variable {A : List Value} {H : AH} {kn : List Value → AH → Option R} {kx : Nat → List Value → AH → Option R} {kr : List Value → AH → Option R}
theorem WN {c x y : Code} {e : Operand} (h : c = .cond e x y) : aW P G call c A H kn kx kr = ax (ed A e) (aW P G call x A H kn kx kr) (aW P G call y A H kn kx kr) := by subst h; rfl
theorem FG {c x : Code} {id : Nat} (h : c = .block id x) {D : Nat} {n : Nat → List Value → AH → Option R} (hn : n = fun i A H => if i = id then kn A H else kx i A H) (hD : ∀ i, au D (n i)) :
 aW P G call c A H kn kx kr = aW P G call x A H kn (fun i A H => n i (clear D A) H) kr := by
 subst h
 have e : (fun i A H => n i (clear D A) H) = n := by
  funext i A H
  exact (hD i A (clear D A) H (g8 D A)).symm
 rw [e, hn]; try rfl
theorem Xy {c x : Code} (h : c = .loop x) : aW P G call c A H kn kx kr = ie P G call x A H kx kr := by subst h; rfl
theorem Jx {x : Code} {D : Nat} {n : List Value → AH → Option R} (hn : n = fun A H => ie P G call x A H kx kr) (hD : au D n) : ie P G call x A H kx kr = n (clear D A) H := by
 have := hD A (clear D A) H (g8 D A);rw [← this, hn]
theorem Jw {x : Code} {D : Nat} {n : List Value → AH → Option R} (hn : n = fun A H => ie P G call x A H kx kr) (hD : au D n) :
 ie P G call x A H kx kr = aW P G call x A H (fun A H => n (clear D A) H) kx kr := by
 have e : (fun A H => n (clear D A) H) = n := by
  funext A H
  exact (hD A (clear D A) H (g8 D A)).symm
 rw [e, hn]; exact RF ..
def Code.pre : Nat → Code → Code
 | 0, .seq x _ => x
 | k + 1, .seq x y => .seq x (Code.pre k y)
 | _, c => c
def Code.post : Nat → Code → Code
 | 0, .seq _ y => y
 | k + 1, .seq _ y => Code.post k y
 | _, _ => .skip
theorem Zx : ∀ (k : Nat) (c : Code) (A : List Value) (H : AH), aW P G call c A H kn kx kr = aW P G call (Code.pre k c) A H (fun A H => aW P G call (Code.post k c) A H kn kx kr) kx kr := by
 intro k
 induction k with
 | zero => intro c A H; cases c <;> rfl
 | succ k ih =>
  intro c A H
  cases c with
  | seq x y =>
   have e : (fun A H => aW P G call y A H kn kx kr) = fun A H => aW P G call (Code.pre k y) A H (fun A H => aW P G call (Code.post k y) A H kn kx kr) kx kr := by
    funext A H; exact ih y A H
   show aW P G call x A H (fun A H => aW P G call y A H kn kx kr) kx kr = _;rw [e]; rfl
  | _ => rfl
variable {l T : Option R}
theorem Zy {c : Code} {k D : Nat} {n : List Value → AH → Option R} (h0 : l = aW P G call c A H kn kx kr) (hn : n = fun A H => aW P G call (Code.post k c) A H kn kx kr) (hD : au D n)
 (h1 : aW P G call (Code.pre k c) A H (fun A H => n (clear D A) H) kx kr = T) : l = T := by
 have e : (fun A H => n (clear D A) H) = n := by
  funext A H
  exact (hD A (clear D A) H (g8 D A)).symm
 rw [e, hn] at h1;exact h0.trans ((Zx k c A H).trans h1)
theorem RT {v v' : Value} {x x' y y' : Option R} (h : v = v') (hx : x = x') (hy : y = y') : ax v x y = ax v' x' y' := by rw [h, hx, hy]
theorem WO {c x y : Code} {e : Operand} (h0 : l = aW P G call c A H kn kx kr) (h : c = .cond e x y) (h1 : ax (ed A e) (aW P G call x A H kn kx kr) (aW P G call y A H kn kx kr) = T) : l = T := h0.trans ((WN h).trans h1)
theorem RD {c x : Code} {id D : Nat} {n : Nat → List Value → AH → Option R} (h0 : l = aW P G call c A H kn kx kr) (h : c = .block id x) (hn : n = fun i A H => if i = id then kn A H else kx i A H) (hD : ∀ i, au D (n i))
 (h1 : aW P G call x A H kn (fun i A H => n i (clear D A) H) kr = T) : l = T := h0.trans ((FG h hn hD).trans h1)
theorem Xz {c x : Code} {D : Nat} {n : List Value → AH → Option R} (h0 : l = aW P G call c A H kn kx kr) (h : c = .loop x) (hn : n = fun A H => ie P G call x A H kx kr) (hD : au D n) (h1 : n (clear D A) H = T) : l = T :=
 h0.trans ((Xy h).trans ((Jx hn hD).trans h1))
theorem XA {x : Code} {D : Nat} {n : List Value → AH → Option R} (h0 : l = ie P G call x A H kx kr) (hn : n = fun A H => ie P G call x A H kx kr) (hD : au D n)
 (h1 : aW P G call x A H (fun A H => n (clear D A) H) kx kr = T) : l = T := h0.trans ((Jw hn hD).trans h1)
end
abbrev OV := Option (Value × AH)
abbrev u : Value := undef
abbrev KK := List Value → AH → OV
abbrev KX := Nat → List Value → AH → OV
noncomputable abbrev CK (P : Program) (G : List Nat) (call : a7) (c : Code) (kn : KK) (kx : KX) (kr : KK) : KK := fun A H => aW P G call c A H kn kx kr
noncomputable abbrev CL (P : Program) (G : List Nat) (call : a7) (c : Code) (kx : KX) (kr : KK) : KK := fun A H => ie P G call c A H kx kr
abbrev BX (id : Nat) (kn : KK) (kx : KX) : KX := fun i A H => if i = id then kn A H else kx i A H
abbrev gk (D : Nat) (n : KK) : KK := fun A H => n (clear D A) H
abbrev uQ (D : Nat) (n : KX) : KX := fun i A H => n i (clear D A) H
def bV : KX := fun _ _ _ => none
def aaL : Nat := 2 ^ 4096 - 1
def ls (l : List Value) (n : Nat) : List Value := l ++ List.replicate n u
section
variable {P : Program} {G : List Nat} {call : a7} {A : List Value} {H : AH} {kn : KK} {kx : KX} {kr : KK} {l T : OV}
theorem aJ : ∀ i, au aaL (bV i) := fun _ => QA
theorem rf {rs : List ResultVar} {D : Nat} (h : M3 D rs = true := by kernel_rfl) : au D (ge P rs) := Vi h
theorem rc {c : Code} {D Dn Dx Dr : Nat} (hn : au Dn kn) (hx : ∀ i, au Dx (kx i)) (hr : au Dr kr) (h : (vG c D Dn && (BG D Dx && BG D Dr)) = true := by kernel_rfl) : au D (CK P G call c kn kx kr) := by
 simp only [Bool.and_eq_true] at h;exact Qx h.1 hn (fun i => (hx i).le h.2.1) (hr.le h.2.2)
theorem rl {c : Code} {D Dx Dr : Nat} (hx : ∀ i, au Dx (kx i)) (hr : au Dr kr) (h : (vG c D D && (BG D Dx && BG D Dr)) = true := by kernel_rfl) : au D (CL P G call c kx kr) := by
 simp only [Bool.and_eq_true] at h;exact Qy h.1 (fun i => (hx i).le h.2.1) (hr.le h.2.2)
theorem rb {D id Dn Dx : Nat} (hn : au Dn kn) (hx : ∀ i, au Dx (kx i)) (h : (BG D Dn && BG D Dx) = true := by kernel_rfl) : ∀ i, au D (BX id kn kx i) := by
 simp only [Bool.and_eq_true] at h;exact Kj (hn.le h.1) (fun i => (hx i).le h.2)
theorem cd {D : Nat} {n : KK} (h : au D n) : au D (gk D n) := AI h
theorem cx {D : Nat} {n : KX} (h : ∀ i, au D (n i)) : ∀ i, au D (uQ D n i) := fun i => AI (h i)
theorem pt {c : Code} {D : Nat} {n : KK} (h0 : l = aW P G call c A H kn kx kr) (k : Nat) (hD : au D n) (h1 : aW P G call (Code.pre k c) A H (gk D n) kx kr = T)
 (hn : n = fun A H => aW P G call (Code.post k c) A H kn kx kr := by kernel_rfl) : l = T := Zy h0 hn hD h1
theorem ct {c : Code} (h0 : l = aW P G call c A H kn kx kr) (x y : Code) (e : Operand) {v : Value} {X Y : OV} (hx : aW P G call x A H kn kx kr = X) (hy : aW P G call y A H kn kx kr = Y)
 (h : c = .cond e x y := by kernel_rfl) (he : ed A e = v := by kernel_rfl) : l = ax v X Y := WO h0 h (RT he hx hy)
theorem bt {c : Code} {D : Nat} {n : KX} (h0 : l = aW P G call c A H kn kx kr) (x : Code) (id : Nat) (hD : ∀ i, au D (n i)) (h1 : aW P G call x A H kn (uQ D n) kr = T)
 (h : c = .block id x := by kernel_rfl) (hn : n = fun i A H => if i = id then kn A H else kx i A H := by kernel_rfl) : l = T := RD h0 h hn hD h1
theorem li {c : Code} {D : Nat} {n : KK} (h0 : l = aW P G call c A H kn kx kr) (x : Code) (hD : au D n) (h1 : n (clear D A) H = T) (h : c = .loop x := by kernel_rfl)
 (hn : n = fun A H => ie P G call x A H kx kr := by kernel_rfl) : l = T := Xz h0 h hn hD h1
theorem yx {x : Code} {D : Nat} {n : KK} (h0 : l = ie P G call x A H kx kr) (hD : au D n) (h1 : aW P G call x A H (gk D n) kx kr = T)
 (hn : n = fun A H => ie P G call x A H kx kr := by kernel_rfl) : l = T := XA h0 hn hD h1
theorem j0 {id : Nat} (h0 : l = BX id kn kx id A H) (h1 : kn A H = T) : l = T := by rw [h0, ← h1]; simp [BX]
theorem fo {f : Nat} {fn : Func} (hf : P.funcs[f]? = some fn) {args : List Value} {t : OV} {r : Value × AH} (e : Lb P G (aF P G) fn.ntmps fn.results.toList (bX fn) args H = t) (h : t = some r)
 (hb : fn.body.isSome = true := by kernel_rfl) (hn : (fn.name == "runtime.NumGoroutine") = false := by kernel_rfl) (hd : jG (bX fn) = none := by kernel_rfl) : aF P G f args H = some r := HL hf hb hn hd (e.trans h)
end
end Go.Proofs.YtghoamdlcjdfjaaGreatDoor.Gst
namespace Go.Proofs.YtghoamdlcjdfjaaGreatDoor.Gst
open Go Go.RowKit Go.ChangeShapes
set_option linter.unusedSimpArgs false
def eF (H H' : AH) : Prop := H.size ≤ H'.size ∧ ∀ b, b < H.size → H'.get b = H.get b
theorem eF.refl (H : AH) : eF H H := ⟨bf _, fun _ _ => rfl⟩
theorem eF.trans {A B C : AH} (h : eF A B) (k : eF B C) : eF A C := ⟨dN h.1 k.1, fun b hb => by rw [k.2 b (by have := h.1; omega), h.2 b hb]⟩
theorem eF.push (H : AH) (o : AObj) : eF H (H.push o) := ⟨by rw [AH.size_push]; omega, fun b hb => AH.get_push_old hb⟩
theorem eF.get {H H' : AH} (h : eF H H') {b : Nat} {o : AObj} (hb : H.get b = some o) : H'.get b = some o := by rw [h.2 b (AH.lt_of_get hb)]; exact hb
inductive Ty where
 | int (k : IntKind)
 | bool
 | slice (t : Ty)
 | unit
 | pair (a b : Ty)
def Ty.w : Ty → Nat
 | .int _ | .bool | .slice _ => 1
 | .unit => 0
 | .pair a b => a.w + b.w
abbrev Ty.I : Ty → Type
 | .int _ => Int
 | .bool => Bool
 | .slice t => List t.I
 | .unit => Unit
 | .pair a b => a.I × b.I
inductive jF {α : Type} (R : α → List Value → Prop) : List α → List Value → Prop
 | nil : jF R [] []
 | cons {x : α} {l : List α} {c cs : List Value} (h : R x c) (k : jF R l cs) : jF R (x :: l) (c ++ cs)
def Abs (H : AH) : (t : Ty) → t.I → List Value → Prop
 | .int k, n, cs => cs = [.int k n] ∧ (Lit.int k n).wf = true
 | .bool, b, cs => cs = [.bool b]
 | .unit, _, cs => cs = []
 | .pair a b, x, cs => ∃ c1 c2, cs = c1 ++ c2 ∧ Abs H a x.1 c1 ∧ Abs H b x.2 c2
 | .slice t, l, cs => (l = [] ∧ cs = [.slice none 0 0]) ∨ (l = [] ∧ ∃ b, cs = [.slice (some ⟨b, 0, none⟩) 0 0]) ∨
  ∃ b row, H.get b = some (.cells true row) ∧ cs = [.slice (some ⟨b, 0, none⟩) l.length t.w] ∧ jF (Abs H t) l row ∧ l.length ≤ maxLen
theorem jF.mono {α : Type} {R S : α → List Value → Prop} (h : ∀ x c, R x c → S x c) {l : List α} {cs : List Value} (k : jF R l cs) : jF S l cs := by
 induction k with
 | nil => exact .nil
 | cons h1 _ ih => exact .cons (h _ _ h1) ih
theorem Abs.keep {H H' : AH} (k : eF H H') : ∀ (t : Ty) (x : t.I) (cs : List Value), Abs H t x cs → Abs H' t x cs := by
 intro t
 induction t with
 | int k => intro x cs h; exact h
 | bool => intro x cs h; exact h
 | unit => intro x cs h; exact h
 | pair a b iha ihb =>
  intro x cs h;obtain ⟨c1, c2, e, h1, h2⟩ := h;exact ⟨c1, c2, e, iha _ _ h1, ihb _ _ h2⟩
 | slice t ih =>
  intro x cs h
  rcases h with h | h | ⟨b, row, h1, h2, h3, h4⟩
  ·exact .inl h
  ·exact .inr (.inl h)
  ·exact .inr (.inr ⟨b, row, k.get h1, h2, h3.mono ih, h4⟩)
theorem jF.length {α : Type} {R : α → List Value → Prop} {n : Nat} (h : ∀ x c, R x c → c.length = n) {l : List α} {cs : List Value} (k : jF R l cs) : cs.length = l.length * n := by
 induction k with
 | nil => simp
 | cons h1 _ ih => rw [nC, h _ _ h1, ih, List.length_cons, Nat.add_mul]; omega
theorem Abs.length {H : AH} : ∀ (t : Ty) (x : t.I) (cs : List Value), Abs H t x cs → cs.length = t.w := by
 intro t
 induction t with
 | int k => intro x cs h; rw [h.1]; rfl
 | bool => intro x cs h; have h : cs = _ := h; rw [h]; rfl
 | unit => intro x cs h; have h : cs = _ := h; rw [h]; rfl
 | pair a b iha ihb =>
  intro x cs h;obtain ⟨c1, c2, e, h1, h2⟩ := h;rw [e, nC, iha _ _ h1, ihb _ _ h2]; rfl
 | slice t ih =>
  intro x cs h
  rcases h with h | ⟨_, b, h⟩ | ⟨b, row, h1, h2, h3, h4⟩
  ·rw [h.2]; rfl
  ·rw [h]; rfl
  ·rw [h2]; rfl
def yJ : (t : Ty) → t.I → Prop
 | .int _, _ => True
 | .bool, _ => True
 | .unit, _ => True
 | .pair a b, x => yJ a x.1 ∧ yJ b x.2
 | .slice t, l => l.length ≤ reachBytes ∧ ∀ x ∈ l, yJ t x
def YT {Hd : Type} (P : Program) (t : TypeId) (d : DataW Hd) : Prop := ∀ n ∈ DataW.weights P t d, n ≤ reachBytes
theorem pR {Hd : Type} {P : Program} {e : TypeId} {d : DataW Hd} {n : Nat} : ∀ {l : List (DataW Hd)}, d ∈ l → n ∈ DataW.weights P e d → n ∈ DataW.weightsAll P e l := by
 intro l
 induction l with
 | nil => intro h; cases h
 | cons x l ih =>
  intro h hn;rw [DataW.weightsAll, List.mem_append]
  rcases Jl.1 h with rfl | h
  ·exact .inl hn
  ·exact .inr (ih h hn)
theorem ya {Hd : Type} {P : Program} {n : Nat} : ∀ {ts : List TypeId} {ds : List (DataW Hd)} {i : Nat} {t : TypeId} {d : DataW Hd}, ts[i]? = some t → ds[i]? = some d → n ∈ DataW.weights P t d → n ∈ DataW.weightsEach P ts ds := by
 intro ts
 induction ts with
 | nil => intro ds i t d h; simp at h
 | cons t0 ts ih =>
  intro ds i t d h1 h2 hn
  cases ds with
  | nil => simp at h2
  | cons d0 ds =>
   rw [DataW.weightsEach, List.mem_append]
   cases i with
   | zero =>
    simp at h1 h2;subst h1; subst h2;exact .inl hn
   | succ i => exact .inr (ih (by simpa using h1) (by simpa using h2) hn)
def ol (P : Program) : Ty → (TypeId → Bool) × (List Field → Nat → Bool)
 | .int k => (fun t => match P.underlying t with | some (.int k') => k' == k && P.cellsOf t == 1 | _ => false, fun _ _ => false)
 | .bool => (fun t => match P.underlying t with | some .bool => P.cellsOf t == 1 | _ => false, fun _ _ => false)
 | .slice ty => (fun t => match P.underlying t with | some (.slice e) => (ol P ty).1 e && P.cellsOf e == ty.w && decide (0 < ty.w ∧ 0 < P.bytesOf e) && P.cellsOf t == 1 | _ => false, fun _ _ => false)
 | .unit => (fun _ => false, fun fs _ => fs.isEmpty)
 | .pair a b =>
  let F : List Field → Nat → Bool := fun fs off => match fs with
   | f :: fs => f.offset == off && (ol P a).1 f.type && P.cellsOf f.type == a.w && (ol P b).2 fs (off + a.w)
   | [] => false
  (fun t => match P.underlying t with | some (.struct fs) => P.cellsOf t == a.w + b.w && F fs.toList 0 | _ => false, F)
section
variable {Hd : Type} {enc : TypeId × Value → Hd} {P : Program} {w : World} {held : Bool}
theorem Rel.pushRo {B : Nat} {w0 : World} {ρ : bh} {H : AH} (h : Rel P w0 B ρ H w) {row : List Value} {c d sz : Nat} (hc : c < w.heap.size) (hcB : c < B) (hor : oA P ρ d sz (.cells true row) w.heap[c]?) :
 Rel P w0 B (ρ.upd H.size (c, d, sz)) (H.push (.cells true row)) w := by
 have hnone : ρ H.size = none := by
  cases hn : ρ H.size with
  | none => rfl
  | some x => have := h.dom _ _ hn; omega
 have hle := bh.upd_le (x := (c, d, sz)) hnone
 have key : ∀ b1 o1, (H.push (.cells true row)).get b1 = some o1 → (b1 = H.size ∧ o1 = .cells true row) ∨ (b1 < H.size ∧ H.get b1 = some o1) := by
  intro b1 o1 h1;rw [AH.get_push] at h1
  by_cases hb1 : b1 = H.size
  ·rw [if_pos hb1] at h1; exact .inl ⟨hb1, (fg h1).symm⟩
  ·rw [if_neg hb1] at h1; exact .inr ⟨AH.lt_of_get h1, h1⟩
 have old : ∀ {b1 c1 d1 sz1}, b1 < H.size → ρ.upd H.size (c, d, sz) b1 = some (c1, d1, sz1) → ρ b1 = some (c1, d1, sz1) := by
  intro b1 c1 d1 sz1 hb1 hx
  rwa [bh.upd_ne (by omega)] at hx
 have new : ∀ {c1 d1 sz1}, ρ.upd H.size (c, d, sz) H.size = some (c1, d1, sz1) → c1 = c ∧ d1 = d ∧ sz1 = sz := by
  intro c1 d1 sz1 hx;rw [bh.upd_same] at hx;cases hx;exact ⟨rfl, rfl, rfl⟩
 refine ⟨h.base, h.below, ?_, ?_, ?_, ?_, ?_, ?_⟩
 ·intro b1 x hx
  rw [AH.size_push]
  by_cases hb1 : b1 = H.size
  ·omega
  ·rw [bh.upd_ne hb1] at hx; have := h.dom b1 x hx; omega
 ·intro b1 c1 d1 sz1 hx
  by_cases hb1 : b1 = H.size
  ·subst hb1
   obtain ⟨rfl, _, _⟩ := new hx;exact hc
  ·rw [bh.upd_ne hb1] at hx; exact h.blk b1 c1 d1 sz1 hx
 ·intro b1 c1 d1 sz1 o1 hx h1
  rcases key b1 o1 h1 with ⟨rfl, rfl⟩ | ⟨hb1, h1⟩
  ·obtain ⟨rfl, rfl, rfl⟩ := new hx
   exact hor.mono hle
  ·exact (h.obj b1 c1 d1 sz1 o1 (old hb1 hx) h1).mono hle
 ·intro b1 c1 d1 sz1 o1 hx h1 hrw
  rcases key b1 o1 h1 with ⟨rfl, rfl⟩ | ⟨hb1, h1⟩
  ·cases hrw
  ·exact h.own b1 c1 d1 sz1 o1 (old hb1 hx) h1 hrw
 ·intro b1 c1 d1 sz1 cs1 hx h1
  rcases key b1 _ h1 with ⟨rfl, _⟩ | ⟨hb1, h1⟩
  ·obtain ⟨rfl, _, _⟩ := new hx
   exact hcB
  ·exact h.ro b1 c1 d1 sz1 cs1 (old hb1 hx) h1
 ·intro b1 b2 c1 d1 d2 sz1 sz2 o1 o2 hx1 hx2 h1 h2 hr1 hr2
  rcases key b1 o1 h1 with ⟨rfl, rfl⟩ | ⟨hb1, h1⟩
  ·cases hr1
  ·rcases key b2 o2 h2 with ⟨rfl, rfl⟩ | ⟨hb2, h2⟩
   ·cases hr2
   ·exact h.inj b1 b2 c1 d1 d2 sz1 sz2 o1 o2 (old hb1 hx1) (old hb2 hx2) h1 h2 hr1 hr2
theorem GZ {B : Nat} {w0 : World} {ρ : bh} {H : AH} (h : Rel P w0 B ρ H w) (x : Nat × Nat × Nat) : ∀ b y, ρ b = some y → ρ.upd H.size x b = some y :=
 bh.upd_le (by
  cases hn : ρ H.size with
  | none => rfl
  | some x => have := h.dom _ _ hn; omega)
def Got (P : Program) (w : World) (ρ : bh) (H : AH) (ty : Ty) (cs : List Value) (ρ' : bh) (H' : AH) : Prop :=
 ∃ x avs, Rel P w w.heap.size ρ' H' w ∧ (∀ b y, ρ b = some y → ρ' b = some y) ∧ eF H H' ∧ LRel P ρ' avs cs ∧ Abs H' ty x avs ∧ yJ ty x
theorem wn {fuel : Nat} {t : TypeId} {cs : List Value} {x : DataW Hd × List MemPlace} (h : DataW.trod enc P w 0 (fun _ => true) held fuel t cs = some x) : ∃ n, fuel = n + 1 := by
 cases fuel with
 | zero => simp [DataW.trod] at h
 | succ n => exact ⟨n, rfl⟩
theorem Nv {ty : Ty} {e : TypeId} {n : Nat} (ih : ∀ (cs : List Value) (x : DataW Hd × List MemPlace) (ρ : bh) (H : AH), Rel P w w.heap.size ρ H w → DataW.trod enc P w 0 (fun _ => true) held n e cs = some x → YT P e x.1 → ∃ ρ' H', Got P w ρ H ty cs ρ' H')
 (a : Addr) : ∀ (m i : Nat) (ρ : bh) (H : AH), Rel P w w.heap.size ρ H w → (∀ j, i ≤ j → j < i + m → ∃ y, (w.cells? 0 (a.add (j * ty.w)) ty.w).bind (DataW.trod enc P w 0 (fun _ => true) held n e) = some y ∧ YT P e y.1) →
  ∃ ρ' H' l row cc, Rel P w w.heap.size ρ' H' w ∧ (∀ b y, ρ b = some y → ρ' b = some y) ∧ eF H H' ∧ l.length = m ∧ jF (Abs H' ty) l row ∧ LRel P ρ' row cc ∧ (∀ k, k < m * ty.w → w.cell? (a.add (i * ty.w + k)) = cc[k]?) ∧ cc.length = m * ty.w ∧ ∀ x ∈ l, yJ ty x := by
 intro m
 induction m with
 | zero =>
  intro i ρ H hR _;exact ⟨ρ, H, [], [], [], hR, fun _ _ h => h, eF.refl H, rfl, .nil, LRel.nil, fun k hk => by omega, by simp, fun x hx => by cases hx⟩
 | succ m ihm =>
  intro i ρ H hR hel;obtain ⟨y, hy, hwy⟩ := hel i (bf _) (by omega);obtain ⟨cs, hcs, hy⟩ := aC.1 hy;obtain ⟨ρ1, H1, x, avs, hR1, hle1, hk1, hl1, ha1, hs1⟩ := ih cs y ρ H hR hy hwy;obtain ⟨ρ2, H2, l, row, cc, hR2, hle2, hk2, hlen, hrow, hl2, hcell, hcl, hs2⟩ := ihm (i + 1) ρ1 H1 hR1 (fun j h1 h2 => hel j (by omega) (by omega));obtain ⟨_, hcsl, hcsg⟩ := World.cells?_some hcs;refine ⟨ρ2, H2, x :: l, avs ++ row, cs ++ cc, hR2, fun b y h => hle2 b y (hle1 b y h), hk1.trans hk2, by simp [hlen], .cons (Abs.keep hk2 ty x avs ha1) hrow, (hl1.mono hle2).append hl2, ?_, ?_, ?_⟩
  ·intro k hk
   have hmul : (m + 1) * ty.w = ty.w + m * ty.w := by rw [Nat.add_mul]; omega
   have hmul2 : (i + 1) * ty.w = i * ty.w + ty.w := by rw [Nat.add_mul]; omega
   by_cases hkw : k < ty.w
   ·rw [List.getElem?_append_left (by omega), ← hcsg k hkw]
    congr 1
    unfold Addr.add
    repeat' split
    all_goals first | rfl | omega | (simp; done) | (simp; omega)
   ·rw [List.getElem?_append_right (by omega), hcsl, ← hcell (k - ty.w) (by omega), hmul2]
    congr 2
    omega
  ·rw [nC, hcsl, hcl, Nat.add_mul]; omega
  ·intro z hz
   rcases Jl.1 hz with rfl | hz
   ·exact hs1
   ·exact hs2 z hz
theorem VO : ∀ (ty : Ty),
 (∀ (t : TypeId), (ol P ty).1 t = true → ∀ (fuel : Nat) (cs : List Value) (x : DataW Hd × List MemPlace) (ρ : bh) (H : AH), Rel P w w.heap.size ρ H w → DataW.trod enc P w 0 (fun _ => true) held fuel t cs = some x → YT P t x.1 → ∃ ρ' H', Got P w ρ H ty cs ρ' H') ∧
 (∀ (fs : List Field) (off : Nat), (ol P ty).2 fs off = true → ∀ (fuel : Nat) (cs : List Value) (ρ : bh) (H : AH), Rel P w w.heap.size ρ H w → cs.length = off + ty.w →
  (∀ f ∈ fs, ∃ y, DataW.trod enc P w 0 (fun _ => true) held fuel f.type ((cs.drop f.offset).take (P.cellsOf f.type)) = some y ∧ YT P f.type y.1) → ∃ ρ' H', Got P w ρ H ty (cs.drop off) ρ' H') := by
 intro ty
 induction ty with
 | int k =>
  refine ⟨?_, fun fs off h => by cases h⟩;intro t ht fuel cs x ρ H hR h hwx;obtain ⟨n, rfl⟩ := wn h;simp only [ol] at ht
  split at ht
  ·rename_i k' hu
   simp only [Bool.and_eq_true, beq_iff_eq] at ht;obtain ⟨rfl, _⟩ := ht;obtain ⟨n, rfl, _, hw⟩ := DataW.trod_int hu h;exact ⟨ρ, H, n, [.int k' n], hR, fun _ _ h => h, eF.refl H, LRel.of_all rfl, ⟨rfl, hw⟩, trivial⟩
  ·cases ht
 | bool =>
  refine ⟨?_, fun fs off h => by cases h⟩;intro t ht fuel cs x ρ H hR h hwx;obtain ⟨n, rfl⟩ := wn h;simp only [ol] at ht
  split at ht
  ·rename_i hu
   obtain ⟨b, rfl, _⟩ := DataW.trod_bool hu h;exact ⟨ρ, H, b, [.bool b], hR, fun _ _ h => h, eF.refl H, LRel.of_all rfl, rfl, trivial⟩
  ·cases ht
 | unit =>
  refine ⟨fun t h => by (cases h), ?_⟩;intro fs off hfs fuel cs ρ H hR hl h;refine ⟨ρ, H, (), [], hR, fun _ _ h => h, eF.refl H, ?_, rfl, trivial⟩;have : cs.drop off = [] := List.drop_eq_nil_of_le (by simp [Ty.w] at hl; omega);rw [this]; exact LRel.nil
 | slice ty ih =>
  refine ⟨?_, fun fs off h => by cases h⟩;intro t ht fuel cs x ρ H hR h hwx;simp only [ol] at ht
  split at ht
  ·rename_i e hu
   simp only [Bool.and_eq_true, beq_iff_eq, decide_eq_true_eq] at ht;obtain ⟨⟨⟨ht, he⟩, hw, hby⟩, _⟩ := ht
   rcases DataW.trod_slice hu h with ⟨rfl, _⟩ | ⟨a, len, cap, elems, rest, n, rfl, rfl, hx, _, hlc, hcm, hlen, hel, hsp, _⟩
   ·exact ⟨ρ, H, [], [.slice none 0 0], hR, fun _ _ h => h, eF.refl H, LRel.of_all rfl, .inl ⟨rfl, rfl⟩, Nat.zero_le _, fun x hx => by cases hx⟩
   ·have hwt : DataW.weights P t x.1 = (elems.length + rest.length) * P.bytesOf e :: (DataW.weightsAll P e (elems.map (·.1)) ++ DataW.weightsAll P e (rest.map (·.1))) := by
     rw [hx];unfold DataW.weights;rw [hu];simp
    have hreach : len ≤ reachBytes := by
     have h1 := hwx _ (by rw [hwt]; exact List.mem_cons_self)
     have h2 : len + rest.length ≤ (elems.length + rest.length) * P.bytesOf e := by
      rw [hlen]
      exact Nat.le_mul_of_pos_right _ hby
     omega
    have hwe : ∀ (y : DataW Hd × List MemPlace), (y ∈ elems ∨ y ∈ rest) → YT P e y.1 := by
     intro y hy n hn;refine hwx n ?_;rw [hwt, Jl, List.mem_append]
     rcases hy with hy | hy
     ·exact .inr (.inl (pR (List.mem_map.2 ⟨y, hy, rfl⟩) hn))
     ·exact .inr (.inr (pR (List.mem_map.2 ⟨y, hy, rfl⟩) hn))
    rw [he] at hel hsp
    by_cases hc0 : cap = 0
    ·subst hc0
     obtain rfl : len = 0 := by omega
     exact ⟨ρ, H, [], [.slice (some ⟨0, 0, none⟩) 0 0], hR, fun _ _ h => h, eF.refl H, LRel.cons .empty LRel.nil, .inr (.inl ⟨rfl, 0, rfl⟩), Nat.zero_le _, fun x hx => by cases hx⟩
    ·have all : ∀ j, 0 ≤ j → j < 0 + cap → ∃ y, (w.cells? 0 (a.add (j * ty.w)) ty.w).bind (DataW.trod enc P w 0 (fun _ => true) held n e) = some y ∧ YT P e y.1 := by
      intro j _ hj
      by_cases hjl : j < len
      ·rw [hel j hjl]
       exact ⟨elems[j]'(by omega), br (by omega), hwe _ (.inl (PN _))⟩
      ·obtain ⟨hr1, hr2⟩ := hsp rfl
       have := hr2 (j - len) (by omega);rw [show len + (j - len) = j from by omega] at this;rw [this];exact ⟨rest[j - len]'(by omega), br (by omega), hwe _ (.inr (PN _))⟩
     -- all cells of its room are there
     obtain ⟨_, _, _, _, cca, _, _, _, _, _, _, hca, hcal, _⟩ := Nv (fun cs x ρ H => ih.1 e ht n cs x ρ H) a cap 0 ρ H hR all;obtain ⟨ρ1, H1, l, row, cc, hR1, hle1, hk1, hll, hrow, hl1, hcell, hcl, hsm⟩ := Nv (fun cs x ρ H => ih.1 e ht n cs x ρ H) a len 0 ρ H hR (fun j h1 h2 => all j h1 (by omega));have hpos : 0 < cap * ty.w := Nat.mul_pos (by omega) hw;have h0 := hca 0 hpos;have hsome : ∃ v, cca[0]? = some v := ⟨cca[0]'(by omega), br (by omega)⟩;obtain ⟨v0, hv0⟩ := hsome;rw [hv0] at h0
     have hadd0 : a.add (0 * ty.w + 0) = a := by simp [Addr.add]
     rw [hadd0] at h0;unfold World.cell? at h0
     split at h0
     ·rename_i c el fz hblk
      split at h0
      ·cases h0
      ·rename_i hspot
       obtain ⟨ab, ao, as'⟩ := a
       have : as' = none := by cases as' with | none => rfl | some _ => simp at hspot
       subst this
       have cellsAt : ∀ k, k < cap * ty.w → c[ao + k]? = cca[k]? := by
        intro k hk;have := hca k hk;rw [show 0 * ty.w + k = k from by omega, Addr.add_lit] at this;unfold World.cell? at this;simp only [hblk, Option.isSome_none] at this
        simpa using this
       have hfit : ao + cap * ty.w ≤ c.size := by
        have := cellsAt (cap * ty.w - 1) (by omega);rw [br (by omega)] at this;have := (Array.getElem?_eq_some_iff.1 this).1;omega
       have hsub : len * ty.w ≤ cap * ty.w := Nat.mul_le_mul_right _ hlc
       have hrl : row.length = len * ty.w := by rw [hl1.1, hcl]
       have hccs : (c.toList.drop ao).take row.length = cc := by
        apply List.ext_getElem?;intro k;rw [hrl, List.getElem?_take]
        by_cases hk : k < len * ty.w
        ·rw [if_pos hk, List.getElem?_drop]
         have h1 := hcell k hk;rw [show 0 * ty.w + k = k from by omega, Addr.add_lit] at h1;unfold World.cell? at h1;simp only [hblk, Option.isSome_none] at h1;rw [← h1];simp
        ·rw [if_neg hk, List.getElem?_eq_none (by omega)]
       have hblk' : w.heap[ab]? = some (.cells c el fz) := hblk;have hab : ab < w.heap.size := (Array.getElem?_eq_some_iff.1 hblk').1;have hp := hR1.pushRo (row := row) (c := ab) (d := ao) (sz := c.size) hab hab ⟨c, el, fz, hblk', rfl, by omega, (fun h => by cases h), by rw [hccs]; exact hl1⟩;have hkp := eF.push H1 (.cells true row);refine ⟨_, _, l, [.slice (some ⟨H1.size, 0, none⟩) l.length ty.w], hp, fun b y h => GZ hR1 _ b y (hle1 b y h), hk1.trans hkp, LRel.cons ?_ LRel.nil, .inr (.inr ⟨H1.size, row, AH.get_push_new _ _, rfl, hrow.mono (Abs.keep hkp ty), by omega⟩), by rw [hll]; exact hreach, hsm⟩;rw [hll];have := VRel.slice (P := P) (ρ := ρ1.upd H1.size (ab, ao, c.size)) (b := H1.size) (o := 0) (n := len) (e := ty.w) (c := ab) (d := ao) (sz := c.size) (k := cap) (bh.upd_same ..) (by omega) hlc hw
       simpa using this
     ·cases h0
  ·cases ht
 | pair a b iha ihb =>
  have fields : ∀ (fs : List Field) (off : Nat), (ol P (.pair a b)).2 fs off = true → ∀ (fuel : Nat) (cs : List Value) (ρ : bh) (H : AH), Rel P w w.heap.size ρ H w → cs.length = off + (a.w + b.w) →
   (∀ f ∈ fs, ∃ y, DataW.trod enc P w 0 (fun _ => true) held fuel f.type ((cs.drop f.offset).take (P.cellsOf f.type)) = some y ∧ YT P f.type y.1) → ∃ ρ' H', Got P w ρ H (.pair a b) (cs.drop off) ρ' H' := by
   intro fs off hfs fuel cs ρ H hR hl h;simp only [ol] at hfs
   cases fs with
   | nil => cases hfs
   | cons f fs =>
    simp only [Bool.and_eq_true, beq_iff_eq] at hfs;obtain ⟨⟨⟨h1, h2⟩, h3⟩, h4⟩ := hfs;obtain ⟨y, hy, hwy⟩ := h f (by simp);rw [h1, h3] at hy;obtain ⟨ρ1, H1, x1, a1, hR1, hle1, hk1, hl1, ha1, hs1⟩ := iha.1 f.type h2 fuel _ y ρ H hR hy hwy;obtain ⟨ρ2, H2, x2, a2, hR2, hle2, hk2, hl2, ha2, hs2⟩ := ihb.2 fs (off + a.w) h4 fuel cs ρ1 H1 hR1 (by omega) (fun g hg => h g (by simp [hg]));refine ⟨ρ2, H2, (x1, x2), a1 ++ a2, hR2, fun b y h => hle2 b y (hle1 b y h), hk1.trans hk2, ?_, ⟨a1, a2, rfl, Abs.keep hk2 a x1 a1 ha1, ha2⟩, hs1, hs2⟩
    have e : cs.drop off = (cs.drop off).take a.w ++ cs.drop (off + a.w) := by
     rw [← List.drop_drop];exact (List.take_append_drop a.w (cs.drop off)).symm
    rw [e];exact (hl1.mono hle2).append hl2
  refine ⟨?_, fields⟩;intro t ht fuel cs x ρ H hR h hwx;obtain ⟨n, rfl⟩ := wn h;have j0 := ht;simp only [ol] at ht
  split at ht
  ·rename_i fs hu
   simp only [Bool.and_eq_true, beq_iff_eq] at ht;obtain ⟨xs, n', _, hxe, hlen, hxl, hxs⟩ := DataW.trod_struct hu h
   have := fields fs.toList 0 ht.2 n' cs ρ H hR (by rw [hlen, ht.1]; simp) (fun f hf => by
    obtain ⟨i, hi, rfl⟩ := List.mem_iff_getElem.1 hf;have := hxs i fs.toList[i] (by simp);rw [this]
    have hix : i < xs.length := by rw [hxl]; simpa using hi
    refine ⟨xs[i]'hix, br _, fun n hn => hwx n ?_⟩;rw [hxe];unfold DataW.weights;rw [hu]
    exact ya (i := i) (by rw [vt, br hi]; rfl) (by rw [vt, br hix]; rfl) hn)
   simpa using this
  ·cases ht
end
def valOf : Ty → List Value → Value
 | .pair _ _, cs => .agg cs.toArray
 | .unit, cs => .agg cs.toArray
 | _, cs => cs.headD undef
abbrev Rg : List Ty → Type
 | [] => Unit
 | t :: ts => t.I × Rg ts
def pS (H : AH) : (ts : List Ty) → Rg ts → List Value → Prop
 | [], _, vs => vs = []
 | t :: ts, x, vs => ∃ cs rest, vs = valOf t cs :: rest ∧ Abs H t x.1 cs ∧ pS H ts x.2 rest
theorem pS.keep {H H' : AH} (k : eF H H') : ∀ (ts : List Ty) (x : Rg ts) (vs : List Value), pS H ts x vs → pS H' ts x vs := by
 intro ts
 induction ts with
 | nil => intro x vs h; exact h
 | cons t ts ih =>
  intro x vs h;obtain ⟨cs, rest, e, h1, h2⟩ := h;exact ⟨cs, rest, e, Abs.keep k t _ _ h1, ih _ _ h2⟩
def uU : (ts : List Ty) → Rg ts → Prop
 | [], _ => True
 | t :: ts, x => yJ t x.1 ∧ uU ts x.2
def p7 (P : Program) : List Ty → List TypeId → Bool
 | [], [] => true
 | ty :: tys, t :: ts => (ol P ty).1 t && P.readableRec t && decide (t < P.types.size) && p7 P tys ts
 | _, _ => false
section
variable {Hd : Type} {enc : TypeId × Value → Hd} {P : Program} {w : World} {held : Bool}
theorem WE {ty : Ty} {t : TypeId} (ht : (ol P ty).1 t = true) {v : Value} {d : DataW Hd} {ps : List MemPlace} {r : Reach} {b0 : Nat} (hval : Value.okWide P w r b0 t v) (h : DataW.Trod enc P w 0 (fun _ => true) held t v d ps) (hwd : YT P t d)
 {ρ : bh} {H : AH} (hR : Rel P w w.heap.size ρ H w) : ∃ ρ' H' x avs, Rel P w w.heap.size ρ' H' w ∧ (∀ b y, ρ b = some y → ρ' b = some y) ∧ eF H H' ∧ VRel P ρ' (valOf ty avs) v ∧ Abs H' ty x avs ∧ yJ ty x := by
 obtain ⟨fuel, h⟩ := h;obtain ⟨ρ', H', x, avs, h1, h2, h3, h4, h5, h6⟩ := (VO (enc := enc) (P := P) (w := w) (held := held) ty).1 t ht fuel _ _ ρ H hR h hwd;refine ⟨ρ', H', x, avs, h1, h2, h3, ?_, h5, h6⟩;have hlen := Abs.length ty x avs h5
 have one : ∀ (hw : ty.w = 1) (hva : ∀ cs, v ≠ .agg cs), VRel P ρ' (avs.headD undef) v := by
  intro hw hva
  have hc : v.cells.toList = [v] := by
   cases v <;> first | rfl | exact absurd rfl (hva _)
  rw [hc] at h4
  match avs, hlen with
  | [a], _ => exact h4.2 0 a v rfl rfl
  | [], hl => rw [hw] at hl; cases hl
  | a :: b :: l, hl => rw [hw] at hl; simp at hl
 cases ty with
 | int k =>
  refine one rfl (fun cs e => ?_);subst e;simp only [ol] at ht
  split at ht
  ·rename_i hu
   unfold Value.okWide at hval;rw [hu] at hval;unfold Cell.okWide at hval;rw [hu] at hval;unfold Cell.ok at hval;rw [hu] at hval;exact hval
  ·cases ht
 | bool =>
  refine one rfl (fun cs e => ?_);subst e;simp only [ol] at ht
  split at ht
  ·rename_i hu
   unfold Value.okWide at hval;rw [hu] at hval;unfold Cell.okWide at hval;rw [hu] at hval;unfold Cell.ok at hval;rw [hu] at hval;exact hval
  ·cases ht
 | slice e =>
  refine one rfl (fun cs e => ?_);subst e;simp only [ol] at ht
  split at ht
  ·rename_i hu
   unfold Value.okWide at hval;rw [hu] at hval;unfold Cell.okWide at hval;rw [hu] at hval;unfold Cell.ok at hval;rw [hu] at hval;exact hval
  ·cases ht
 | unit => simp only [ol] at ht; cases ht
 | pair a b =>
  simp only [ol] at ht
  split at ht
  ·rename_i fs hu
   unfold Value.okWide at hval;rw [hu] at hval;obtain ⟨cs, rfl, _⟩ := hval;have h4 : LRel P ρ' avs cs.toList := h4;exact .agg (by simpa using h4.1) (fun i x y hx hy => h4.2 i x y (by simpa using hx) (by simpa using hy))
  ·cases ht
theorem Rx : ∀ (tys : List Ty) (ts : List TypeId) (vs : List Value) (ds : List (DataW Hd)) (ps : List MemPlace), p7 P tys ts = true → (∀ (j : Nat) t v, ts[j]? = some t → vs[j]? = some v → ∃ r b0, Value.okWide P w r b0 t v) →
 DataW.TrodAll enc P w 0 (fun _ => true) held ts vs ds ps → (∀ n ∈ DataW.weightsEach P ts ds, n ≤ reachBytes) → ∀ (ρ : bh) (H : AH), Rel P w w.heap.size ρ H w →
 ∃ ρ' H' x avs, Rel P w w.heap.size ρ' H' w ∧ (∀ b y, ρ b = some y → ρ' b = some y) ∧ eF H H' ∧ LRel P ρ' avs vs ∧ pS H' tys x avs ∧ uU tys x := by
 intro tys
 induction tys with
 | nil =>
  intro ts vs ds ps hc hval h hwd ρ H hR
  cases ts with
  | cons t ts => cases hc
  | nil =>
   obtain ⟨rfl, _, _⟩ := trodAll_nil h;exact ⟨ρ, H, (), [], hR, fun _ _ h => h, eF.refl H, LRel.nil, rfl, trivial⟩
 | cons ty tys ih =>
  intro ts vs ds ps hc hval h hwd ρ H hR
  cases ts with
  | nil => cases hc
  | cons t ts =>
   simp only [p7, Bool.and_eq_true] at hc;obtain ⟨⟨⟨hc1, _⟩, _⟩, hc2⟩ := hc;obtain ⟨v, vs', d, ds', p, q, rfl, rfl, rfl, hd, hrest⟩ := trodAll_cons h;obtain ⟨r, b0, hv0⟩ := hval 0 t v rfl rfl;obtain ⟨ρ1, H1, x1, a1, hR1, hle1, hk1, hv1, ha1, hs1⟩ := WE hc1 hv0 hd (fun n hn => hwd n (by rw [DataW.weightsEach]; exact List.mem_append_left _ hn)) hR;obtain ⟨ρ2, H2, x2, a2, hR2, hle2, hk2, hl2, ha2, hs2⟩ := ih ts vs' ds' q hc2 (fun j t v h1 h2 => hval (j + 1) t v (by simpa using h1) (by simpa using h2)) hrest (fun n hn => hwd n (by rw [DataW.weightsEach]; exact List.mem_append_right _ hn)) ρ1 H1 hR1;exact ⟨ρ2, H2, (x1, x2), valOf ty a1 :: a2, hR2, fun b y h => hle2 b y (hle1 b y h), hk1.trans hk2, LRel.cons (hv1.mono hle2) hl2, ⟨a1, a2, rfl, Abs.keep hk2 ty x1 a1 ha1, ha2⟩, hs1, hs2⟩
theorem N4 (hl : laidOutB P = true) {W' : World} (hb : Below w.heap.size w W') : ∀ (tys : List Ty) (ts : List TypeId) (vs : List Value) (ds : List (DataW Hd)) (ps : List MemPlace), p7 P tys ts = true → (∀ x ∈ ps, x.block < w.heap.size) →
 DataW.TrodAll enc P w 0 (fun _ => true) true ts vs ds ps → DataW.TrodAll enc P W' 0 (fun b => decide (b < w.heap.size)) true ts vs ds ps := by
 intro tys
 induction tys with
 | nil =>
  intro ts vs ds ps hc hlt h
  cases ts with
  | cons t ts => cases hc
  | nil =>
   obtain ⟨rfl, rfl, rfl⟩ := trodAll_nil h;exact trodAll_mk0
 | cons ty tys ih =>
  intro ts vs ds ps hc hlt h
  cases ts with
  | nil => cases hc
  | cons t ts =>
   simp only [p7, Bool.and_eq_true, decide_eq_true_eq] at hc;obtain ⟨⟨⟨_, hc1⟩, hc3⟩, hc2⟩ := hc;obtain ⟨v, vs', d, ds', p, q, rfl, rfl, rfl, hd, hrest⟩ := trodAll_cons h;exact ⟨p, q, Below.trod hl hc1 hc3 hd hb (fun x hx => hlt x (by simp [hx])), ih ts vs' ds' q hc2 (fun x hx => hlt x (by simp [hx])) hrest, rfl⟩
theorem law_post (hm : P.follows .mixedOrders = true) (hl : laidOutB P = true) {G : List Nat} {f : Nat} {fn : Func} {s : ChangeSpec} {tys : List Ty} (hc : p7 P tys fn.params.toList = true)
 {tb : TypeId} (hres : fn.resultTypes = #[tb]) (hb : P.underlying tb = some .bool) (hvars : s.vars = [])
 {args : Array Value} {ds gs : List (DataW Hd)} {before : List MemPlace} (hval : ∀ (j : Nat) t v, fn.params[j]? = some t → args[j]? = some v → ∃ r b0, Value.okWide P w r b0 t v)
 (hW : DataW.Whole enc P fn.params.toList s.vars false w args.toList ds gs before) (hspec : s.fn Hd (ds ++ gs) = { results := [.lit (.bool true)], args := ds })
 {ρ0 : bh} {H0 : AH} (hR : Rel P w w.heap.size ρ0 H0 w) (hG : GlobRel ρ0 G)
 (hwt : (DataW.weightsEach P fn.params.toList ds).all (· ≤ reachBytes) = true)
 (run : ∀ (x : Rg tys) (avs : List Value) (H : AH), eF H0 H → pS H tys x avs → uU tys x → ∃ H', aF P G f avs H = some (.bool true, H')) :
 Calls P f args w fun e w' => ∃ v, e = .returned v ∧ s.post enc P fn false true false false w args v w' := by
 have hW' := hW;obtain ⟨p, q, hA, hV, rfl, hfz, hnd⟩ := hW;rw [hvars] at hV;obtain ⟨rfl, rfl⟩ := trodVars_none hV;obtain ⟨ρ1, H1, x, avs, hR1, hle1, hk1, hl1, ha1, hs1⟩ := Rx tys fn.params.toList args.toList ds p hc (fun j t v h1 h2 => hval j t v (by simpa using h1) (by simpa using h2)) hA (fun n hn => by simpa using List.all_eq_true.1 hwt n hn) ρ0 H0 hR;obtain ⟨H', hrun⟩ := run x avs H1 hk1 ha1 hs1;have hG1 : GlobRel ρ1 G := fun g hg => let ⟨sz, h⟩ := hG g hg; ⟨sz, hle1 _ _ h⟩;have hcall := ((Z3 (P := P) (G := G) hm).1 f avs H1 _ H' hrun).2 w w.heap.size ρ1 w args.toList hR1 hG1 hl1;rw [show args.toList.toArray = args from by simp] at hcall;refine hcall.mono fun e w' ⟨v', ρ', he, hv, hext, hR'⟩ => ?_
 have hv : v' = .bool true := by
  cases hv with
  | lit h => rfl
 subst hv;subst he
 have hlt : ∀ y ∈ p, y.block < w.heap.size := fun y hy => by
  have := hW'.lt y (by simp [hy])
  simpa using this
 refine ⟨_, rfl, ds, [], p ++ [], [], p, [], hW', ?_, ?_, ?_, ?_, fun h => by cases h⟩
 ·rw [hspec, hres]
  exact ⟨[], [], shut_bool hb true, trodAll_mk0, rfl⟩
 ·rw [hspec]
  exact N4 hl hR'.below tys _ _ _ _ hc hlt hA
 ·rw [hvars, hspec]
  rfl
 ·exact hR'.below.frame _
end
theorem rel_none (P : Program) (w : World) : Rel P w w.heap.size (fun _ => none) ⟨[]⟩ w where
 base := bf _
 below := Below.refl _ _
 dom := fun b x h => by cases h
 blk := fun b c d sz h => by cases h
 obj := fun b c d sz o h => by cases h
 own := fun b c d sz o h => by cases h
 ro := fun b c d sz cs h => by cases h
 inj := fun b b' c d d' sz sz' o o' h => by cases h
end Go.Proofs.YtghoamdlcjdfjaaGreatDoor.Gst
namespace Go.Proofs.YtghoamdlcjdfjaaGreatDoor.Gst
open Go Go.RowKit
set_option maxRecDepth 100000
set_option linter.unusedVariables false
set_option maxHeartbeats 1000000
abbrev N6 : Nat := 65185151242703554760590262029100101153646988597309960020356494379340201592426774597868716015
abbrev ab9 : Nat := 12554203470773361527671578846415332832204710888928068895681
abbrev acA : Nat := 12554203470773361527671578846415332832204710888928064803837
abbrev acB : Nat := 713623846352979940529142984724747568191366975
abbrev acC : Nat := 713623846352979940529142984724747568191338303
abbrev acD : Nat := 713623846352979940529142984724747568191342399
abbrev acE : Nat := 12554203470773361527671578846415332832204710888928069022719
abbrev C1 : Nat := 1237940039285380274899122808
abbrev acF : Nat := 12554203470773361527671578846415332832204710888928068998141
abbrev acG : Nat := 12554203470773361527671578846415332832204710888928068764609
abbrev ab4 : Nat := 713623846352979940529142984724747568191371071
abbrev ab5 : Nat := 713623846352979940529142984724747568191373247
abbrev ab6 : Nat := 713623846352979940529142984724747568191358783
abbrev qX : Nat := 590295810358705651256
abbrev qY : Nat := 590295810358705650744
abbrev yV : Nat := 1237940039285380274899123320
abbrev yW : Nat := 309485009821345068724780233
abbrev Yn : Nat := 65185151242703554760590262029100101153646988597309960020356494379340201592426774597868715788
abbrev yX : Nat := 590295810358705649720
abbrev KZ : Nat := 664613997892457936451903530140172271
abbrev FC : Nat := 1237940039285380274899123832
abbrev K4 : Nat := 72057594037927887
abbrev ab7 : Nat := 72057594037927820
abbrev K5 : Nat := 40564819207303340847894502572015
abbrev yY : Nat := 1125899906842566
abbrev K6 : Nat := 309485009821345068724780751
abbrev ww : Nat := 4398046511091
abbrev yZ : Nat := 4397241204723
abbrev K7 : Nat := 590295810358705651519
abbrev K8 : Nat := 36893488147419103219
abbrev FD : Nat := 1125899906842598
abbrev y3 : Nat := 1073692589
abbrev y4 : Nat := 1073741708
abbrev FE : Nat := 4398046511090
abbrev K9 : Nat := 2251799813685196
noncomputable abbrev PP : Program := Tryz.prog
def GG : List Nat := [0]
noncomputable abbrev FF : a7 := aF PP GG
noncomputable abbrev CQ (c : Code) (kn : KK) (kx : KX) (kr : KK) : KK := CK PP GG FF c kn kx kr
noncomputable abbrev CX (c : Code) (kx : KX) (kr : KK) : KK := CL PP GG FF c kx kr
def iq : Nat := 8
def r8 : Nat := 10
def l8 : Nat := 12
def r7 : Nat := 16
def bd : Nat := 18
def ma : Nat := 19
def gS : Nat := 20
def f4 : Nat := 21
def dq : Nat := 22
def ei : Nat := 23
def pd : Nat := 25
def pg : Nat := 26
def M1 : Nat := 30
def M0 : Nat := 33
def j2 : Nat := 34
def se : Nat := 35
def io : Nat := 36
def gP : Nat := 37
def gJ : Nat := 38
def gL : Nat := 39
def dV : Nat := 40
def pe : Nat := 44
def la : Nat := 45
def kW : Nat := 46
def eg : Nat := 49
def cg : Nat := 56
def j3 : Nat := 57
def ej : Nat := 58
def ir : Nat := 59
def iW : Nat := 60
def vE : Nat := 61
def mh : Nat := 62
def vD : Nat := 63
def dr : Nat := 64
def r9 : Nat := 65
def gi : Nat := 66
def xx : Nat := 72
def aS : Nat := 73
def kX : Nat := 74
def cY : Nat := 75
def pf : Nat := 79
def cy : Nat := 80
def l7 : Nat := 81
def vF : Nat := 82
def pc : Nat := 83
def pn : Nat := 84
def sa : Nat := 85
def r5 : Nat := 86
def k7 : Nat := 87
def lc : Nat := 88
def mf : Nat := 89
def me : Nat := 90
def gN : Nat := 91
def iZ : Nat := 92
def iw : Nat := 93
def jN : Nat := 94
def pa : Nat := 98
def l6 : Nat := 99
def cF : Nat := 104
def dQ : Nat := 105
def f3 : Nat := 106
def iv : Nat := 107
def kV : Nat := 108
def e8 : Nat := 109
def cm : Nat := 110
def M2 : Nat := 111
def i1 : Nat := 112
def gQ : Nat := 113
def jK : Nat := 114
def gz : Nat := 115
def bx : Nat := 116
def gv : Nat := 117
def fv : Nat := 118
def gu : Nat := 119
def i4 : Nat := 120
def lg : Nat := 121
def dU : Nat := 122
def gy : Nat := 123
def iu : Nat := 124
def YK : Nat := 125
def UD : Nat := 126
def bL : Nat := 130
def jL : Nat := 132
def fu : Nat := 145
def UE : Nat := 148
def dS : Nat := 149
def pi : Nat := 150
def sd : Nat := 151
def tX : Nat := 152
def tW : Nat := 153
def UB : Nat := 154
def eL : Nat := 155
def sg : Nat := 156
def bB : Nat := 157
def mg : Nat := 158
def di : Nat := 159
def eM : Nat := 160
def hC : Nat := 167
def iU : Nat := 168
def UC : Nat := 169
def i3 : Nat := 170
def fy : Nat := 171
def jM : Nat := 172
def cX : Nat := 173
def dj : Nat := 174
def ji : Nat := 175
def gr : Nat := 176
def gq : Nat := 177
def jJ : Nat := 178
def iX : Nat := 179
def iY : Nat := 180
def gh : Nat := 181
def Ah : Nat := 182
def i5 : Nat := 183
def nD : Nat := 185
def sj : Nat := 190
def pk : Nat := 191
def pj : Nat := 200
def ku : Nat := 207
def kp : Nat := 208
def tU : Nat := 209
def ba : Nat := 210
def fL : Nat := 211
def cu : Nat := 212
def kZ : Nat := 213
def dR : Nat := 214
def fP : Nat := 215
def pr : Nat := 216
def dt : Nat := 217
def kY : Nat := 218
def pp : Nat := 220
def r6 : Nat := 221
def gR : Nat := 237
def gO : Nat := 242
def f5 : Nat := 243
def bA : Nat := 244
def dn : Nat := 245
def ix : Nat := 246
def nE : Nat := 248
def jj : Nat := 277
def kq : Nat := 282
def dp : Nat := 283
def fA : Nat := 302
def fN : Nat := 305
def fM : Nat := 306
def mU : Nat := 307
def iT : Nat := 308
def iS : Nat := 309
def e7 : Nat := 316
def dP : Nat := 318
def fc : Nat := 319
def mT : Nat := 320
def f0 : Nat := 321
def kz : Nat := 322
def dO : Nat := 324
def lG : Nat := 325
def tV : Nat := 326
def ky : Nat := 327
def km : Nat := 328
def ko : Nat := 329
def eO : Nat := 330
def jO : Nat := 331
def fO : Nat := 332
def e6 : Nat := 333
def iV : Nat := 334
def cP : Nat := 335
def ip : Nat := 336
def ks : Nat := 337
def gK : Nat := 338
def kw : Nat := 339
def gM : Nat := 340
def mS : Nat := 341
section
variable (x0 x1 x2 x3 x4 x5 x8 x9 x15 x35 x48 x51 : Value) (H : AH)
noncomputable def rg (p : List Nat) : Code := Code.sub (bX Tryz.f10) p
noncomputable def oI : KK := ge PP (Tryz.f10).results.toList
noncomputable def Se : KK := CQ (rg [1, 1, 1, 1, 1]) oI bV oI
noncomputable def wI : OV := Se (ls [u, x1, x2, u, x4, x5, u, u, x8] 79) H
noncomputable def Iu : KK := CQ (rg [1, 1, 1, 1, 1, 1]) oI bV oI
noncomputable def Sc : KK := gk K6 Iu
noncomputable def wJ : OV := Iu (ls [u, u, u, u, x4, x5, u, u, x8] 79) H
noncomputable def Sg : KK := CQ (rg [1, 1, 1, 1, 1, 0, 1]) Sc bV oI
noncomputable def wK : OV := Sg (ls [u, x1, x2, u, x4, x5, u, u, x8, x9] 78) H
noncomputable def Ix : KX := BX 0 Sc bV
noncomputable def Dk : KX := uQ K6 Ix
noncomputable def Iv : KK := CX (rg [1, 1, 1, 1, 1, 0, 1, 4, 5]) Dk oI
noncomputable def Sd : KK := gk yW Iv
noncomputable def lF : OV := Iv (ls [u, x1, x2, u, x4, x5, u, u, x8, x9] 78) H
noncomputable def Si : KK := CQ (rg [1, 1, 1, 1, 1, 0, 1, 4, 5, 1]) Sd Dk oI
noncomputable def wL : OV := Si (ls [u, x1, x2, u, x4, x5, u, u, x8, x9] 78) H
noncomputable def Iw : KK := CQ (rg [1, 1, 1, 1, 1, 0, 1, 4, 5, 1, 1]) Sd Dk oI
noncomputable def Ze : KK := gk yW Iw
noncomputable def o8 : OV := Iw (ls [u, x1, x2, u, x4, x5, u, u, x8, x9] 78) H
noncomputable def WW : KX := BX 1 Ze Dk
noncomputable def ri : OV := Ix 0 (ls [u, u, u, u, x4, x5, u, u, x8] 79) H
theorem lB : au 309485009821345068724781007 oI := rf
theorem Sf : au 309485009821345068724780745 Se := rc lB aJ lB
theorem zo : au K6 Iu := rc lB aJ lB
theorem Sh : au yW Sg := rc (cd zo) aJ lB
theorem oJ : ∀ i, au K6 (Ix i) := rb (cd zo) aJ
theorem te : au yW Iv := rl (cx oJ) lB
theorem Sj : au yW Si := rc (cd te) (cx oJ) lB
theorem F1 : au yW Iw := rc (cd te) (cx oJ) lB
theorem Ov : ∀ i, au yW (WW i) := rb (cd F1) (cx oJ)
theorem zZ : wJ x4 x5 x8 H =
 (aB 2 x8 H).bind fun b =>
 (dg 2 x4 b H).bind fun a =>
 (aB 2 x4 a).bind fun c => some (Value.tuple #[c, (vb true)], a) :=
 (by kernel_rfl)
theorem z2 : o8 x1 x2 x4 x5 x8 x9 H =
 (ak .other .add x9 (vi 1)).bind fun a =>
 lF x1 x2 x4 x5 x8 a H :=
 (by kernel_rfl)
theorem z1 : wL x1 x2 x4 x5 x8 x9 H =
 ld [.f 0] x2 H fun d =>
 (ak .other .quo x9 d).bind fun e =>
 ld [.f 1] x2 H fun g =>
 (ak .other .lss e g).bind fun a =>
 (gB a true (aB 2 x8 H)).bind fun i =>
 (gV a true x9).bind fun j =>
 (gV a true x9).bind fun k =>
 (gB a true (ak .other .add (vi 1) k)).bind fun l =>
 (gV a true x9).bind fun m =>
 (gB a true (ak .other .rem m (vi 2))).bind fun n =>
 (gB a true (ak .other .add (vi 2) n)).bind fun o =>
 (gE a true H (FF kW [i, j, l, o] H)).bind fun b =>
 (gB a true (pw .not b.1)).bind fun p =>
 (aQ a p (vb false)).bind fun q =>
 ax q
 (im [(0, 1), (1, 1)] [(.pointer none), (.pointer none)] [] fun s =>
 (dg 2 x4 s b.2).bind fun c =>
 (aB 2 x4 c).bind fun t => some (Value.tuple #[t, (vb false)], c))
 (o8 x1 x2 x4 x5 x8 x9 b.2) :=
 (pt rfl 0 F1 (bt rfl (rg [1, 1, 1, 1, 1, 0, 1, 4, 5, 1, 0, 4]) 1 Ov (by kernel_rfl)))
theorem vl : ri x4 x5 x8 H = wJ x4 x5 x8 H :=
 (by kernel_rfl)
theorem o7 : lF x1 x2 x4 x5 x8 x9 H =
 (ak .other .lss x9 x1).bind fun a =>
 ax a
 (wL x1 x2 x4 x5 x8 x9 H)
 (ri x4 x5 x8 H) :=
 yx rfl te (pt rfl 0 Sj (by kernel_rfl))
theorem z0 : wK x1 x2 x4 x5 x8 x9 H =
 lF x1 x2 x4 x5 x8 x9 H :=
 (bt rfl (rg [1, 1, 1, 1, 1, 0, 1, 4]) 0 oJ (li rfl (rg [1, 1, 1, 1, 1, 0, 1, 4, 5]) te (by kernel_rfl)))
theorem zY : wI x1 x2 x4 x5 x8 H =
 wK x1 x2 x4 x5 x8 (vi 0) H :=
 (pt rfl 0 zo (pt rfl 0 Sh (by kernel_rfl)))
noncomputable def Ui : OV := aW PP GG FF (rg []) (ls [x0, x1] 86) H oI bV oI
theorem Gu {r : Value × AH} (h : (
 aV (Value.cells x0).toList H fun c y =>
 aV [(.pointer none), (.pointer none)] y fun k m =>
 (aB 5 c m).bind fun z =>
 (FF l8 [z] m).bind fun o =>
 (dg 5 c o.1 o.2).bind fun p =>
 (aB 5 c p).bind fun A =>
 (FF pe [A] p).bind fun a =>
 (ai a.1 0).bind fun b =>
 (ai a.1 1).bind fun B =>
 (ak .other .neq B (vi 0)).bind fun l =>
 (gV l false b).bind fun C =>
 (gB l false (ak .ptr .eql C (.pointer none))).bind fun D =>
 (aQ l (vb true) D).bind fun d =>
 (gV d false b).bind fun E =>
 fH d false  [.n, .f 0] E a.2 fun G =>
 (gB d false (ak .ptr .eql G (.pointer none))).bind fun I =>
 (aQ d (vb true) I).bind fun e =>
 (gV e false b).bind fun J =>
 fH e false  [.n, .f 1] J a.2 fun K =>
 (gB e false (ak .ptr .eql K (.pointer none))).bind fun L =>
 (aQ e (vb true) L).bind fun g =>
 (gV g false b).bind fun M =>
 fH g false  [.n, .f 2] M a.2 fun N =>
 (gB g false (ak .ptr .eql N (.pointer none))).bind fun O =>
 (aQ g (vb true) O).bind fun i =>
 (gV i false b).bind fun P =>
 fH i false  [.n, .f 3] P a.2 fun Q =>
 (gB i false (ak .ptr .eql Q (.pointer none))).bind fun R =>
 (aQ i (vb true) R).bind fun j =>
 (gV j false b).bind fun S =>
 fH j false  [.n, .f 4] S a.2 fun T =>
 (gB j false (ak .ptr .eql T (.pointer none))).bind fun U =>
 (aQ j (vb true) U).bind fun V =>
 ax V
 (im [(0, 1), (1, 1)] [(.pointer none), (.pointer none)] [] fun W =>
 (dg 2 k W a.2).bind fun q =>
 (aB 2 k q).bind fun X => some (Value.tuple #[X, (vb false)], q))
 ((aB 5 c a.2).bind fun Y =>
 (FF la [Y] a.2).bind fun s =>
 im [(0, 1), (1, 1)] [(.pointer none), (.pointer none)] [(0, b), (1, s.1)] fun Z =>
 aV [(.pointer none), (.pointer none)] s.2 fun w a0 =>
 (dg 2 w Z a0).bind fun a1 =>
 wI x1 c k (vb false) w a1)) = some r) : FF r8 [x0, x1] H = some r :=
 fo (t := Ui x0 x1 H) Tryz.func10 (by kernel_rfl) (Eq.trans (pt rfl 4 Sf (by kernel_rfl)) h)
noncomputable def Sk (p : List Nat) : Code := Code.sub (bX Tryz.f12) p
noncomputable def zr : KK := ge PP (Tryz.f12).results.toList
noncomputable def Sm : KK := CQ (Sk [1, 1]) zr bV zr
noncomputable def pz : OV := Sm (ls [u, x1, x2, x3] 29) H
noncomputable def So : KK := CQ (Sk [1, 1, 1]) zr bV zr
noncomputable def iC : OV := So (ls [u, x1, x2, x3] 29) H
theorem yf : au 8589934587 zr := rf
theorem Sn : au 8589934577 Sm := rc yf aJ yf
theorem Sq : au 8589934577 So := rc yf aJ yf
theorem uc : iC x1 x2 x3 H =
 ld [.f 0] x1 H fun k =>
 (FF bd [k, (vi 4)] H).bind fun b =>
 (ak .other .add (vi 1) b.1).bind fun l =>
 ad [.f 1] x1 fun g =>
 (am g b.2).bind fun m =>
 bw (am g H) (am g b.2) <|
 (FF bd [m, (vi 4)] b.2).bind fun c =>
 (ak .other .add (vi 1) c.1).bind fun n =>
 ad [.f 2] x1 fun e =>
 (am e c.2).bind fun o =>
 bw (am e H) (am e c.2) <|
 bw (am e b.2) (am e c.2) <|
 (FF bd [o, (vi 6)] c.2).bind fun d =>
 (ak .other .add (vi 1) d.1).bind fun p =>
 ad [.f 3] x1 fun a =>
 (am a d.2).bind fun q =>
 bw (am a H) (am a d.2) <|
 bw (am a b.2) (am a d.2) <|
 bw (am a c.2) (am a d.2) <|
 (FF bd [q, (vi 12)] d.2).bind fun i =>
 im [(0, 1), (1, 1), (2, 1), (3, 1), (4, 1)] [(vi 0), (vi 0), (vi 0), (vi 0), (vw 0)] [(0, l), (1, n), (2, p), (3, i.1), (4, x3)] fun s =>
 (dg 5 x2 s i.2).bind fun j =>
 (aB 5 x2 j).bind fun t => some (t, j) :=
 (by kernel_rfl)
theorem ub : pz x1 x2 x3 H =
 ld [.f 4] x1 H fun a =>
 (ak .other .rem a (vw 4)).bind fun b =>
 (ak .other .eql b (vw 3)).bind fun c =>
 ax c
 (ld [.f 4] x1 H fun d =>
 (ak .other .rem d (vw 4611686018427387904)).bind fun e =>
 (ak .other .add (vw 1) e).bind fun g =>
 iC x1 x2 g H)
 (iC x1 x2 x3 H) :=
 (pt rfl 0 Sq (by kernel_rfl))
noncomputable def GK : OV := aW PP GG FF (Sk []) (ls [x0] 32) H zr bV zr
theorem Al {r : Value × AH} (h : (
 aV (Value.cells x0).toList H fun a c =>
 aV [(vi 0), (vi 0), (vi 0), (vi 0), (vw 0)] c fun d b =>
 ld [.f 4] a b fun e =>
 (ak .other .rem e (vw 5000)).bind fun g =>
 (ak .other .add (vw 1) g).bind fun i =>
 pz a d i b) = some r) : FF l8 [x0] H = some r :=
 fo (t := GK x0 H) Tryz.func12 (by kernel_rfl) (Eq.trans (pt rfl 1 Sn (by kernel_rfl)) h)
theorem Gp {r : Value × AH} (h : (
 aV (Value.cells x0).toList H fun b j =>
 aV (Value.cells x1).toList j fun c a =>
 ld [.f 0] b a fun k =>
 ld [.f 0] c a fun l =>
 (ak .other .eql k l).bind fun d =>
 fH d true  [.f 2] b a fun m =>
 fH d true  [.f 2] c a fun n =>
 (gB d true (ak .other .eql m n)).bind fun o =>
 (aQ d o (vb false)).bind fun e =>
 fH e true  [.f 3] b a fun p =>
 fH e true  [.f 3] c a fun q =>
 (gB e true (ak .other .eql p q)).bind fun s =>
 (aQ e s (vb false)).bind fun g =>
 fH g true  [.f 1] b a fun t =>
 fH g true  [.f 1] c a fun w =>
 (gE g true a (FF eg [t, w] a)).bind fun i =>
 (aQ g i.1 (vb false)).bind fun y =>
 some (y, i.2)) = some r) : FF r7 [x0, x1] H = some r :=
 fo Tryz.func16 (by kernel_rfl) h
theorem GL {r : Value × AH} (h : (
 (bO (some .u64) x0).bind fun a =>
 (bO (some .u64) x1).bind fun b =>
 (ak .other .rem a b).bind fun c =>
 (bO (some .i64) c).bind fun d =>
 some (d, H)) = some r) : FF bd [x0, x1] H = some r :=
 fo Tryz.func18 (by kernel_rfl) h
theorem Am {r : Value × AH} (h : (
 (ak .other .lss x0 (vw 1)).bind fun a =>
 (gV a false x0).bind fun d =>
 (gB a false (ak .other .gtr d (vw 4611686018427387904))).bind fun e =>
 (aQ a (vb true) e).bind fun b =>
 (gV b false x1).bind fun f =>
 (gB b false (ak .other .lss f (vi 1))).bind fun g =>
 (aQ b (vb true) g).bind fun c =>
 (gV c false x1).bind fun i =>
 (gB c false (ak .other .gtr i (vi 65536))).bind fun j =>
 (aQ c (vb true) j).bind fun k =>
 ax k
 (some (Value.tuple #[(vw 0), (vb false)], H))
 ((bO (some .u64) x1).bind fun l =>
 (ak .other .quo x0 l).bind fun m =>
 (gT [m, (vw 1)]).bind fun n =>
 some (Value.tuple #[n, (vb true)], H))) = some r) : FF ma [x0, x1] H = some r :=
 fo Tryz.func19 (by kernel_rfl) h
theorem qV {r : Value × AH} (h : (
 ad [.n, .f 0] x0 fun b =>
 (am b H).bind fun d =>
 (FF j3 [x2, x3] H).bind fun c =>
 bw (am b c.2) (am b H) <|
 (FF cg [d, x1, c.1] c.2).bind fun a =>
 (ak .other .eql a.1 (vw 0)).bind fun e =>
 ax e
 (some (Value.tuple #[(vi 0), (vi 0), (vb false)], a.2))
 ((ak .other .shr a.1 (vw 32)).bind fun g =>
 (bO (some .i64) g).bind fun i =>
 (ak .other .sub i (vi 1)).bind fun j =>
 (ak .other .and a.1 (vw 4294967295)).bind fun k =>
 (bO (some .i64) k).bind fun l =>
 some (Value.tuple #[j, l, (vb true)], a.2))) = some r) : FF gS [x0, x1, x2, x3] H = some r :=
 fo Tryz.func20 (by kernel_rfl) h
theorem pK {r : Value × AH} (h : (
 ld [.n, .f 1] x0 H fun a =>
 (ak .other .rem x1 a).bind fun b =>
 ld [.n, .f 1] x0 H fun c =>
 (ak .other .add b c).bind fun d =>
 ld [.n, .f 1] x0 H fun e =>
 (ak .other .rem d e).bind fun g =>
 some (g, H)) = some r) : FF f4 [x0, x1] H = some r :=
 fo Tryz.func21 (by kernel_rfl) h
theorem lm {r : Value × AH} (h : (
 aV [(vi 0), (vi 0), (vw 0)] H fun a g =>
 (FF ej [x0, x2] g).bind fun b =>
 (pw .not b.1).bind fun j =>
 ax j
 (im [(0, 1), (1, 1), (2, 1)] [(vi 0), (vi 0), (vw 0)] [] fun k =>
 (dg 3 a k b.2).bind fun d =>
 (aB 3 a d).bind fun l => some (l, d))
 (ld [.n, .f 0] x0 b.2 fun m =>
 im [(0, 1), (1, 1), (2, 1)] [(vi 0), (vi 0), (vi 0)] [(0, (vi 13)), (1, x2)] fun o =>
 (FF ir [m, x1, o] b.2).bind fun c =>
 ld [.n, .f 10] x0 c.2 fun p =>
 ldN 3 [.i 4 x2, .f 0] p c.2 fun q =>
 (dg 3 a q c.2).bind fun e =>
 (aB 3 a e).bind fun s => some (s, e))) = some r) : FF dq [x0, x1, x2] H = some r :=
 fo Tryz.func22 (by kernel_rfl) h
theorem qR {r : Value × AH} (h : (
 (FF ej [x0, x1] H).bind fun a =>
 (pw .not a.1).bind fun b =>
 ax b
 (some ((.pointer none), a.2))
 (ld [.n, .f 10] x0 a.2 fun c =>
 ld [.i 4 x1, .f 3] c a.2 fun d =>
 some (d, a.2))) = some r) : FF ei [x0, x1] H = some r :=
 fo Tryz.func23 (by kernel_rfl) h
noncomputable def nU (p : List Nat) : Code := Code.sub (bX Tryz.f26) p
noncomputable def oQ : KK := ge PP (Tryz.f26).results.toList
noncomputable def SA : KK := CQ (nU [1, 1, 1]) oQ bV oQ
noncomputable def t8 : OV := SA (ls [u, x1, x2, x3] 61) H
noncomputable def IK : KK := CQ (nU [1, 1, 1, 1]) oQ bV oQ
noncomputable def zH : KK := gk K8 IK
noncomputable def cC : OV := IK (ls [u, u, x2, x3] 61) H
noncomputable def SC : KK := CQ (nU [1, 1, 1, 0, 1]) zH bV oQ
noncomputable def t9 : OV := SC (ls [u, x1, x2, x3, u, u, u, u, u, u, u, u, u, u, u, x15] 49) H
noncomputable def SG : KX := BX 0 zH bV
noncomputable def IL : KX := uQ K8 SG
noncomputable def SE : KK := CQ (nU [1, 1, 1, 0, 1, 4, 1]) zH IL oQ
noncomputable def ua : OV := SE (ls [u, x1, x2, x3, u, u, u, u, u, u, u, u, u, u, u, x15, u, u, u, u, u, u, u, u, u, u, u, u, u, u, u, u, u, u, u, x35] 29) H
noncomputable def Mc : KK := CQ (nU [1, 1, 1, 0, 1, 4, 1, 3, 1]) zH IL oQ
noncomputable def rx : OV := Mc (ls [u, x1, x2, x3, u, u, u, u, u, u, u, u, u, u, u, x15, u, u, u, u, u, u, u, u, u, u, u, u, u, u, u, u, u, u, u, u, u, u, u, u, u, u, u, u, u, u, u, u, x48] 16) H
noncomputable def Md : KK := CQ (nU [1, 1, 1, 0, 1, 4, 1, 3, 1, 3, 1]) zH IL oQ
noncomputable def jk : OV := Md (ls [u, x1, x2, x3, u, u, u, u, u, u, u, u, u, u, u, x15, u, u, u, u, u, u, u, u, u, u, u, u, u, u, u, u, u, u, u, u, u, u, u, u, u, u, u, u, u, u, u, u, u, u, u, x51] 13) H
theorem lC : au 36893488147419103227 oQ := rf
theorem SB : au 36893488147419103217 SA := rc lC aJ lC
theorem my : au K8 IK := rc lC aJ lC
theorem SD : au 36893488147419070449 SC := rc (cd my) aJ lC
theorem tp : ∀ i, au K8 (SG i) := rb (cd my) aJ
theorem SF : au 36893488113059332081 SE := rc (cd my) (cx tp) lC
theorem O9 : au 36893206672442359793 Mc := rc (cd my) (cx tp) lC
theorem Pa : au 36891236347605385201 Md := rc (cd my) (cx tp) lC
theorem xD : cC x2 x3 H =
 (aB 4 x3 H).bind fun b =>
 (dg 4 x2 b H).bind fun a =>
 (aB 4 x2 a).bind fun c => some (c, a) :=
 (by kernel_rfl)
theorem vK : jk x1 x2 x3 x15 x51 H =
 ax x51
 (im [(0, 1), (1, 1), (2, 1), (3, 1)] [(vi 0), (vi 0), (vi 0), (vi 0)] [(0, (vi 4))] fun j =>
 (dg 4 x3 j H).bind fun k =>
 cC x2 x3 k)
 ((ak .other .eql x15 (vi 8)).bind fun l =>
 ax l
 (ld [.f 2] x1 H fun m =>
 (FF bd [m, (vi 6)] H).bind fun d =>
 im [(0, 1), (1, 1), (2, 1), (3, 1)] [(vi 0), (vi 0), (vi 0), (vi 0)] [(0, (vi 5)), (2, d.1)] fun n =>
 (dg 4 x3 n d.2).bind fun o =>
 cC x2 x3 o)
 ((ak .other .eql x15 (vi 9)).bind fun p =>
 ax p
 (im [(0, 1), (1, 1), (2, 1), (3, 1)] [(vi 0), (vi 0), (vi 0), (vi 0)] [(0, (vi 6))] fun q =>
 (dg 4 x3 q H).bind fun s =>
 cC x2 x3 s)
 (ld [.f 2] x1 H fun t =>
 (FF bd [t, (vi 9)] H).bind fun a =>
 (ak .other .add (vi 1) a.1).bind fun w =>
 ad [.f 3] x1 fun c =>
 (am c a.2).bind fun y =>
 bw (am c H) (am c a.2) <|
 (FF bd [y, (vi 1000)] a.2).bind fun e =>
 st 1 [.f 0] x3 (vi 3) e.2 fun z =>
 st 1 [.f 2] x3 w z fun A =>
 st 1 [.f 3] x3 e.1 A fun g =>
 ld [.f 2] x1 g fun B =>
 (FF bd [B, (vi 13)] g).bind fun b =>
 (ak .other .eql b.1 (vi 12)).bind fun C =>
 ax C
 (ld [.f 2] x1 b.2 fun D =>
 (FF bd [D, (vi 65536)] b.2).bind fun i =>
 (ak .other .add (vi 1) i.1).bind fun E =>
 st 1 [.f 2] x3 E i.2 fun G =>
 cC x2 x3 G)
 (cC x2 x3 b.2)))) :=
 (by kernel_rfl)
theorem vJ : rx x1 x2 x3 x15 x48 H =
 ax x48
 (st 1 [.f 0] x3 (vi 2) H fun b =>
 cC x2 x3 b)
 ((ak .other .eql x15 (vi 6)).bind fun a =>
 ax a
 (jk x1 x2 x3 x15 a H)
 ((ak .other .eql x15 (vi 7)).bind fun c =>
 jk x1 x2 x3 x15 c H)) :=
 (ct rfl (nU [1, 1, 1, 0, 1, 4, 1, 3, 1, 2]) (nU [1, 1, 1, 0, 1, 4, 1, 3, 1, 3]) (.tmp 48) (by kernel_rfl) (pt rfl 0 Pa (by kernel_rfl)))
theorem xF : ua x1 x2 x3 x15 x35 H =
 ax x35
 (ld [.f 2] x1 H fun d =>
 (FF bd [d, (vi 5)] H).bind fun a =>
 (ak .other .add (vi 1) a.1).bind fun e =>
 ad [.f 3] x1 fun b =>
 (am b a.2).bind fun g =>
 bw (am b H) (am b a.2) <|
 (FF bd [g, (vi 3)] a.2).bind fun c =>
 (ak .other .add (vi 1) c.1).bind fun i =>
 st 1 [.f 0] x3 (vi 1) c.2 fun j =>
 st 1 [.f 2] x3 e j fun k =>
 st 1 [.f 3] x3 i k fun l =>
 cC x2 x3 l)
 ((ak .other .eql x15 (vi 1)).bind fun m =>
 rx x1 x2 x3 x15 m H) :=
 (ct rfl (nU [1, 1, 1, 0, 1, 4, 1, 2]) (nU [1, 1, 1, 0, 1, 4, 1, 3]) (.tmp 35) (by kernel_rfl) (pt rfl 0 O9 (by kernel_rfl)))
theorem xE : t9 x1 x2 x3 x15 H =
 (ak .other .eql x15 (vi 0)).bind fun a =>
 ua x1 x2 x3 x15 a H :=
 (bt rfl (nU [1, 1, 1, 0, 1, 4]) 0 tp (pt rfl 0 SF (by kernel_rfl)))
theorem xC : t8 x1 x2 x3 H =
 ld [.f 0] x1 H fun b =>
 (FF bd [b, (vi 10)] H).bind fun a =>
 t9 x1 x2 x3 a.1 a.2 :=
 (pt rfl 0 my (pt rfl 0 SD (by kernel_rfl)))
noncomputable def Qc : OV := aW PP GG FF (nU []) (ls [x0] 64) H oQ bV oQ
theorem EJ {r : Value × AH} (h : (
 aV (Value.cells x0).toList H fun b j =>
 aV [(vi 0), (vi 0), (vi 0), (vi 0)] j fun c d =>
 ld [.f 1] b d fun k =>
 (FF bd [k, (vi 23)] d).bind fun a =>
 (ak .other .eql a.1 (vi 22)).bind fun l =>
 ax l
 ((aB 4 b a.2).bind fun m =>
 (dg 4 c m a.2).bind fun e =>
 (aB 4 c e).bind fun n => some (n, e))
 (ld [.f 1] b a.2 fun o =>
 (FF bd [o, (vi 5)] a.2).bind fun g =>
 im [(0, 1), (1, 1), (2, 1), (3, 1)] [(vi 0), (vi 0), (vi 0), (vi 0)] [(1, g.1)] fun p =>
 aV [(vi 0), (vi 0), (vi 0), (vi 0)] g.2 fun i q =>
 (dg 4 i p q).bind fun s =>
 t8 b c i s)) = some r) : FF pg [x0] H = some r :=
 fo (t := Qc x0 H) Tryz.func26 (by kernel_rfl) (Eq.trans (pt rfl 2 SB (by kernel_rfl)) h)
end
section
variable (x0 x1 x2 x3 x6 x7 x8 x9 x10 : Value) (H : AH)
noncomputable def eY (p : List Nat) : Code := Code.sub (bX Tryz.f30) p
noncomputable def ig : KK := ge PP (Tryz.f30).results.toList
noncomputable def SK : KK := CQ (eY [1, 1]) ig bV ig
noncomputable def UQ : OV := SK (ls [x0, x1, x2, u, u, u, x6, x7] 61) H
noncomputable def IN : KK := CQ (eY [1, 1, 1]) ig bV ig
noncomputable def SH : KK := gk K7 IN
noncomputable def UR : OV := IN (ls [u, u, u, u, u, u, x6, x7] 61) H
noncomputable def SM : KK := CQ (eY [1, 1, 0, 1]) SH bV ig
noncomputable def US : OV := SM (ls [x0, x1, x2, u, u, u, x6, x7, x8] 60) H
noncomputable def IQ : KX := BX 0 SH bV
noncomputable def D0 : KX := uQ K7 IQ
noncomputable def IO : KK := CX (eY [1, 1, 0, 1, 4, 5]) D0 ig
noncomputable def SJ : KK := gk qX IO
noncomputable def EC : OV := IO (ls [x0, x1, x2, u, u, u, x6, x7, x8] 60) H
noncomputable def SO : KK := CQ (eY [1, 1, 0, 1, 4, 5, 1]) SJ D0 ig
noncomputable def UT : OV := SO (ls [x0, x1, x2, u, u, u, x6, x7, x8] 60) H
noncomputable def IP : KK := CQ (eY [1, 1, 0, 1, 4, 5, 1, 1]) SJ D0 ig
noncomputable def IM : KK := gk qX IP
noncomputable def JK : OV := IP (ls [x0, x1, x2, u, u, u, x6, x7, x8] 60) H
noncomputable def ST : KX := BX 1 IM D0
noncomputable def SU : KX := uQ qX ST
noncomputable def SR : KK := CQ (eY [1, 1, 0, 1, 4, 5, 1, 0, 4, 1]) IM SU ig
noncomputable def UU : OV := SR (ls [x0, x1, x2, u, u, u, x6, x7, x8, x9] 59) H
noncomputable def DY : KX := BX 2 IM SU
noncomputable def yl : KX := uQ qX DY
noncomputable def DU : KK := CX (eY [1, 1, 0, 1, 4, 5, 1, 0, 4, 1, 4, 5]) yl ig
noncomputable def Mf : KK := gk qY DU
noncomputable def yz : OV := DU (ls [x0, x1, x2, u, u, u, x6, x7, x8, x9] 59) H
noncomputable def Mh : KK := CQ (eY [1, 1, 0, 1, 4, 5, 1, 0, 4, 1, 4, 5, 1]) Mf yl ig
noncomputable def M6 : OV := Mh (ls [x0, x1, x2, u, u, u, x6, x7, x8, x9] 59) H
noncomputable def DV : KK := CQ (eY [1, 1, 0, 1, 4, 5, 1, 0, 4, 1, 4, 5, 1, 1]) Mf yl ig
noncomputable def DT : KK := gk qY DV
noncomputable def EB : OV := DV (ls [x0, x1, x2, u, u, u, x6, x7, x8, x9] 59) H
noncomputable def Mk : KX := BX 3 DT yl
noncomputable def Ml : KX := uQ qY Mk
noncomputable def Mi : KK := CQ (eY [1, 1, 0, 1, 4, 5, 1, 0, 4, 1, 4, 5, 1, 0, 4, 1, 1]) DT Ml ig
noncomputable def M7 : OV := Mi (ls [x0, x1, x2, u, u, u, x6, x7, x8, x9, x10] 58) H
noncomputable def DZ : KX := BX 4 DT Ml
noncomputable def ym : KX := uQ qY DZ
noncomputable def DW : KK := CX (eY [1, 1, 0, 1, 4, 5, 1, 0, 4, 1, 4, 5, 1, 0, 4, 1, 1, 4, 5]) ym ig
noncomputable def Mg : KK := gk yX DW
noncomputable def yA : OV := DW (ls [x0, x1, x2, u, u, u, x6, x7, x8, x9, x10] 58) H
noncomputable def Mj : KK := CQ (eY [1, 1, 0, 1, 4, 5, 1, 0, 4, 1, 4, 5, 1, 0, 4, 1, 1, 4, 5, 1]) Mg ym ig
noncomputable def M8 : OV := Mj (ls [x0, x1, x2, u, u, u, x6, x7, x8, x9, x10] 58) H
noncomputable def DX : KK := CQ (eY [1, 1, 0, 1, 4, 5, 1, 0, 4, 1, 4, 5, 1, 0, 4, 1, 1, 4, 5, 1, 1]) Mg ym ig
noncomputable def Xm : KK := gk yX DX
noncomputable def M9 : OV := DX (ls [x0, x1, x2, u, u, u, x6, x7, x8, x9, x10] 58) H
noncomputable def Xn : KX := BX 5 Xm ym
noncomputable def qo : OV := DZ 4 (ls [x0, x1, x2, u, u, u, x6, x7, x8, x9] 59) H
noncomputable def vH : OV := DY 2 (ls [x0, x1, x2, u, u, u, x6, x7, x8] 60) H
noncomputable def GF : OV := IQ 0 (ls [u, u, u, u, u, u, x6, x7] 61) H
theorem dF : au 590295810358705651647 ig := rf
theorem SL : au 590295810358705651512 SK := rc dF aJ dF
theorem zI : au K7 IN := rc dF aJ dF
theorem SN : au qX SM := rc (cd zI) aJ dF
theorem oR : ∀ i, au K7 (IQ i) := rb (cd zI) aJ
theorem tr : au qX IO := rl (cx oR) dF
theorem SQ : au qX SO := rc (cd tr) (cx oR) dF
theorem tt : au qX IP := rc (cd tr) (cx oR) dF
theorem zJ : ∀ i, au qX (ST i) := rb (cd tt) (cx oR)
theorem SS : au qY SR := rc (cd tt) (cx zJ) dF
theorem mA : ∀ i, au qX (DY i) := rb (cd tt) (cx zJ)
theorem qe : au qY DU := rl (cx mA) dF
theorem Pd : au qY Mh := rc (cd qe) (cx mA) dF
theorem qf : au qY DV := rc (cd qe) (cx mA) dF
theorem vh : ∀ i, au qY (Mk i) := rb (cd qf) (cx mA)
theorem Pe : au yX Mi := rc (cd qf) (cx vh) dF
theorem mB : ∀ i, au qY (DZ i) := rb (cd qf) (cx vh)
theorem qg : au yX DW := rl (cx mB) dF
theorem Pf : au yX Mj := rc (cd qg) (cx mB) dF
theorem Ca : au yX DX := rc (cd qg) (cx mB) dF
theorem Pg : ∀ i, au yX (Xn i) := rb (cd Ca) (cx mB)
theorem Cr : UR x6 x7 H =
 some (x7, H) :=
 (by kernel_rfl)
theorem P6 : JK x0 x1 x2 x6 x7 x8 H =
 (ak .other .add x8 (vi 1)).bind fun a =>
 EC x0 x1 x2 x6 x7 a H :=
 (by kernel_rfl)
theorem JG : EB x0 x1 x2 x6 x7 x8 x9 H =
 (ak .other .add x9 (vi 1)).bind fun a =>
 yz x0 x1 x2 x6 x7 x8 a H :=
 (by kernel_rfl)
theorem JJ : M9 x0 x1 x2 x6 x7 x8 x9 x10 H =
 (ak .other .add x10 (vi 1)).bind fun a =>
 yA x0 x1 x2 x6 x7 x8 x9 a H :=
 (by kernel_rfl)
theorem JI : M8 x0 x1 x2 x6 x7 x8 x9 x10 H =
 ld [.i 1 x9] x0 H fun c =>
 (FF bd [c, x1] H).bind fun a =>
 Af 1 1 [(vi 0)] [(0, a.1)] a.2 fun d e =>
 (dX 1 8 x7 d e).bind fun b =>
 M9 x0 x1 x2 x6 b.1 x8 x9 x10 b.2 :=
 (pt rfl 0 Ca (bt rfl (eY [1, 1, 0, 1, 4, 5, 1, 0, 4, 1, 4, 5, 1, 0, 4, 1, 1, 4, 5, 1, 0, 4]) 5 Pg (by kernel_rfl)))
theorem t4 : qo x0 x1 x2 x6 x7 x8 x9 H = EB x0 x1 x2 x6 x7 x8 x9 H :=
 (by kernel_rfl)
theorem Ai : yA x0 x1 x2 x6 x7 x8 x9 x10 H =
 ld [.i 1 x9] x0 H fun c =>
 (FF bd [c, (vi 7)] H).bind fun b =>
 (ak .other .rem x8 (vi 3)).bind fun d =>
 (ak .other .mul b.1 d).bind fun e =>
 (ak .other .lss x10 e).bind fun a =>
 (gV a true x7).bind fun f =>
 (uR (yv a) true (fq f some) (some undef)).bind fun g =>
 (gV a true x2).bind fun j =>
 (gB a true (ak .other .lss g j)).bind fun k =>
 (aQ a k (vb false)).bind fun l =>
 ax l
 (M8 x0 x1 x2 x6 x7 x8 x9 x10 b.2)
 (qo x0 x1 x2 x6 x7 x8 x9 b.2) :=
 yx rfl qg (pt rfl 0 Pf (by kernel_rfl))
theorem JH : M7 x0 x1 x2 x6 x7 x8 x9 x10 H =
 yA x0 x1 x2 x6 x7 x8 x9 x10 H :=
 (bt rfl (eY [1, 1, 0, 1, 4, 5, 1, 0, 4, 1, 4, 5, 1, 0, 4, 1, 1, 4]) 4 mB (li rfl (eY [1, 1, 0, 1, 4, 5, 1, 0, 4, 1, 4, 5, 1, 0, 4, 1, 1, 4, 5]) qg (by kernel_rfl)))
theorem JF : M6 x0 x1 x2 x6 x7 x8 x9 H =
 ld [.i 1 x9] x0 H fun c =>
 (FF bd [c, x1] H).bind fun a =>
 Af 1 1 [(vi 0)] [(0, a.1)] a.2 fun d e =>
 (dX 1 8 x7 d e).bind fun b =>
 M7 x0 x1 x2 x6 b.1 x8 x9 (vi 0) b.2 :=
 (pt rfl 0 qf (bt rfl (eY [1, 1, 0, 1, 4, 5, 1, 0, 4, 1, 4, 5, 1, 0, 4]) 3 vh (pt rfl 1 Pe (by kernel_rfl))))
theorem EA : vH x0 x1 x2 x6 x7 x8 H = JK x0 x1 x2 x6 x7 x8 H :=
 (by kernel_rfl)
theorem JE : yz x0 x1 x2 x6 x7 x8 x9 H =
 fq x0 fun b =>
 (ak .other .lss x9 b).bind fun a =>
 (gV a true x7).bind fun c =>
 (uR (yv a) true (fq c some) (some undef)).bind fun d =>
 (gV a true x2).bind fun e =>
 (gB a true (ak .other .lss d e)).bind fun f =>
 (aQ a f (vb false)).bind fun g =>
 ax g
 (M6 x0 x1 x2 x6 x7 x8 x9 H)
 (vH x0 x1 x2 x6 x7 x8 H) :=
 yx rfl qe (pt rfl 0 Pd (by kernel_rfl))
theorem P7 : UU x0 x1 x2 x6 x7 x8 x9 H =
 yz x0 x1 x2 x6 x7 x8 x9 H :=
 (bt rfl (eY [1, 1, 0, 1, 4, 5, 1, 0, 4, 1, 4]) 2 mA (li rfl (eY [1, 1, 0, 1, 4, 5, 1, 0, 4, 1, 4, 5]) qe (by kernel_rfl)))
theorem P5 : UT x0 x1 x2 x6 x7 x8 H =
 UU x0 x1 x2 x6 x7 x8 (vi 0) H :=
 (pt rfl 0 tt (bt rfl (eY [1, 1, 0, 1, 4, 5, 1, 0, 4]) 1 zJ (pt rfl 0 SS (by kernel_rfl))))
theorem wN : GF x6 x7 H = UR x6 x7 H :=
 (by kernel_rfl)
theorem Cs : EC x0 x1 x2 x6 x7 x8 H =
 (ak .other .lss x8 (vi 40)).bind fun a =>
 (gV a true x0).bind fun b =>
 (uR (yv a) true (fq b some) (some undef)).bind fun c =>
 (gB a true (ak .other .gtr c (vi 0))).bind fun d =>
 (aQ a d (vb false)).bind fun e =>
 ax e
 (UT x0 x1 x2 x6 x7 x8 H)
 (GF x6 x7 H) :=
 yx rfl tr (pt rfl 0 SQ (by kernel_rfl))
theorem P4 : US x0 x1 x2 x6 x7 x8 H =
 EC x0 x1 x2 x6 x7 x8 H :=
 (bt rfl (eY [1, 1, 0, 1, 4]) 0 oR (li rfl (eY [1, 1, 0, 1, 4, 5]) tr (by kernel_rfl)))
theorem P3 : UQ x0 x1 x2 x6 x7 H =
 US x0 x1 x2 x6 x7 (vi 0) H :=
 (pt rfl 0 zI (pt rfl 0 SN (by kernel_rfl)))
noncomputable def pMa : OV := aW PP GG FF (eY []) (ls [x0, x1, x2] 66) H ig bV ig
theorem Zs {r : Value × AH} (h : (
 UQ x0 x1 x2 (.slice none 0 0) (.slice none 0 0) H) = some r) : FF M1 [x0, x1, x2] H = some r :=
 fo (t := pMa x0 x1 x2 H) Tryz.func30 (by kernel_rfl) (Eq.trans (pt rfl 1 SL (by kernel_rfl)) h)
theorem qQ {r : Value × AH} (h : (
 ld [.n, .f 10] x0 H fun a =>
 fq a fun b =>
 some (b, H)) = some r) : FF gP [x0] H = some r :=
 fo Tryz.func37 (by kernel_rfl) h
theorem ux {r : Value × AH} (h : (
 ad [.n, .f 0] x0 fun a =>
 (am a H).bind fun d =>
 (FF cY [x0, (vi 11), (vi 0)] H).bind fun b =>
 bw (am a b.2) (am a H) <|
 (FF cg [d, x1, b.1] b.2).bind fun c =>
 some (c.1, c.2)) = some r) : FF dV [x0, x1] H = some r :=
 fo Tryz.func40 (by kernel_rfl) h
theorem EE {r : Value × AH} (h : (
 aV (Value.cells x0).toList H fun a m =>
 (aB 5 a m).bind fun n =>
 (FF l7 [n] m).bind fun j =>
 (pw .not j.1).bind fun o =>
 ax o
 (some (Value.tuple #[(.pointer none), (vi 1)], j.2))
 ((FF vF [] j.2).bind fun b =>
 ld [.f 0] a b.2 fun p =>
 (FF pc [b.1, p] b.2).bind fun c =>
 ad [.f 0] a fun k =>
 (am k c.2).bind fun q =>
 bw (am k b.2) (am k c.2) <|
 ad [.f 1] a fun l =>
 (am l c.2).bind fun s =>
 bw (am l b.2) (am l c.2) <|
 (FF pn [b.1, q, s] c.2).bind fun d =>
 ad [.f 2] a fun i =>
 (am i d.2).bind fun t =>
 bw (am i b.2) (am i d.2) <|
 bw (am i c.2) (am i d.2) <|
 (FF sa [b.1, t] d.2).bind fun e =>
 (aB 5 a e.2).bind fun w =>
 bw (aB 5 a b.2) (aB 5 a e.2) <|
 bw (aB 5 a c.2) (aB 5 a e.2) <|
 bw (aB 5 a d.2) (aB 5 a e.2) <|
 (FF r5 [w] e.2).bind fun g =>
 (aB 5 a g.2).bind fun y =>
 bw (aB 5 a b.2) (aB 5 a g.2) <|
 bw (aB 5 a c.2) (aB 5 a g.2) <|
 bw (aB 5 a d.2) (aB 5 a g.2) <|
 bw (aB 5 a e.2) (aB 5 a g.2) <|
 Bx g.2 fun z A =>
 im [(0, 1), (1, 1), (2, 1), (3, 1), (4, 1), (5, 5), (10, 1), (11, 1), (12, 1)] [(.pointer none), (.pointer none), (.pointer none), (.pointer none), (.pointer none), (vi 0), (vi 0), (vi 0), (vi 0), (vw 0), (.slice none 0 0), (.map none), (.slice none 0 0)] [(0, b.1), (1, c.1), (2, d.1), (3, e.1), (4, g.1), (5, y), (7, z)] fun B =>
 aV (Value.cells B).toList A fun C D =>
 some (Value.tuple #[C, (vi 0)], D))) = some r) : FF pe [x0] H = some r :=
 fo Tryz.func44 (by kernel_rfl) h
theorem xR {r : Value × AH} (h : (
 aV (Value.cells x0).toList H fun a m =>
 im [(0, 1), (1, 1), (2, 1)] [(.slice none 0 0), (.slice none 0 0), (.slice none 0 0)] [] fun n =>
 aV (Value.cells n).toList m fun i b =>
 (aB 5 a b).bind fun o =>
 ld [.f 0] a b fun p =>
 (FF k7 [i, p] b).bind fun c =>
 bw (aB 5 a c.2) (aB 5 a b) <|
 ad [.f 0] a fun j =>
 (am j c.2).bind fun q =>
 bw (am j b) (am j c.2) <|
 ad [.f 1] a fun k =>
 (am k c.2).bind fun s =>
 bw (am k b) (am k c.2) <|
 (FF lc [i, q, s] c.2).bind fun d =>
 bw (aB 5 a d.2) (aB 5 a b) <|
 ad [.f 2] a fun g =>
 (am g d.2).bind fun t =>
 bw (am g b) (am g d.2) <|
 bw (am g c.2) (am g d.2) <|
 (FF mf [i, t] d.2).bind fun e =>
 bw (aB 5 a e.2) (aB 5 a b) <|
 (aB 5 a e.2).bind fun w =>
 bw (aB 5 a b) (aB 5 a e.2) <|
 bw (aB 5 a c.2) (aB 5 a e.2) <|
 bw (aB 5 a d.2) (aB 5 a e.2) <|
 (FF me [w] e.2).bind fun l =>
 bw (aB 5 a l.2) (aB 5 a b) <|
 im [(0, 5), (5, 1), (6, 1), (7, 1), (8, 1), (9, 1), (10, 1), (11, 1), (12, 1), (13, 1)] [(vi 0), (vi 0), (vi 0), (vi 0), (vw 0), (.pointer none), (.pointer none), (.pointer none), (.pointer none), (.pointer none), (.slice none 0 0), (.slice none 0 0), (.slice none 0 0), (.slice none 0 0)] [(0, o), (1, i), (2, c.1), (3, d.1), (4, e.1), (5, l.1)] fun y =>
 aV (Value.cells y).toList l.2 fun z A =>
 some (z, A)) = some r) : FF la [x0] H = some r :=
 fo Tryz.func45 (by kernel_rfl) h
theorem xj {r : Value × AH} (h : (
 aV (Value.cells x0).toList H fun i l =>
 ld [.f 1] i l fun s =>
 ldN 5 [.n, .f 0] s l fun t =>
 aV [(vi 0), (vi 0), (vi 0), (vi 0), (vw 0)] l fun g w =>
 (dg 5 g t w).bind fun p =>
 ld [.f 4] g p fun y =>
 (FF ma [y, x2] p).bind fun m =>
 (ai m.1 0).bind fun z =>
 (ai m.1 1).bind fun a3 =>
 im [(0, 1), (1, 1), (2, 1)] [(vi 0), (vi 0), (vw 0)] [(0, x1), (1, x3), (2, z)] fun A =>
 aV [(vi 0), (vi 0), (vw 0)] m.2 fun j B =>
 (dg 3 j A B).bind fun k =>
 ld [.f 0] i k fun C =>
 (aB 3 j k).bind fun D =>
 (FF gN [C, (vi 0), D] k).bind fun d =>
 ad [.f 1] i fun o =>
 (am o d.2).bind fun E =>
 bw (am o k) (am o d.2) <|
 (aB 3 j d.2).bind fun G =>
 bw (aB 3 j k) (aB 3 j d.2) <|
 (FF iZ [E, (vi 0), G] d.2).bind fun c =>
 (ak .other .eql d.1 c.1).bind fun a =>
 fH a true  [.f 0] i c.2 fun I =>
 fH a true  [.n, .f 2] I c.2 fun J =>
 (gV a true x1).bind fun K =>
 fH a true  [.f 0] g c.2 fun L =>
 (gB a true (ak .other .rem K L)).bind fun M =>
 (gV a true x1).bind fun N =>
 fH a true  [.f 0] g c.2 fun O =>
 (gB a true (ak .other .quo N O)).bind fun P =>
 (gV a true x1).bind fun Q =>
 (gV a true d.1).bind fun R =>
 (gE a true c.2 (FF iw [J, (vi 0), M, P, Q, R] c.2)).bind fun e =>
 (aQ a e.1 (vb false)).bind fun b =>
 fH b true  [.f 1] i e.2 fun S =>
 fH b true  [.n, .f 7] S e.2 fun T =>
 (gV b true x1).bind fun U =>
 fH b true  [.f 0] g e.2 fun V =>
 (gB b true (ak .other .rem U V)).bind fun W =>
 (gV b true x1).bind fun X =>
 fH b true  [.f 0] g e.2 fun Y =>
 (gB b true (ak .other .quo X Y)).bind fun Z =>
 (gV b true x1).bind fun a0 =>
 (gV b true c.1).bind fun a1 =>
 (gE b true e.2 (FF jN [T, (vi 0), W, Z, a0, a1] e.2)).bind fun q =>
 (aQ b q.1 (vb false)).bind fun a2 =>
 some (a2, q.2)) = some r) : FF kW [x0, x1, x2, x3] H = some r :=
 fo Tryz.func46 (by kernel_rfl) h
theorem mF {r : Value × AH} (h : (
 (FF pa [x0, x1, (.func (.func l6) #[] #[])] H).bind fun a =>
 some (a.1, a.2)) = some r) : FF eg [x0, x1] H = some r :=
 fo Tryz.func49 (by kernel_rfl) h
theorem xn {r : Value × AH} (h : (
 aV (Value.cells x2).toList H fun a b =>
 (aB 3 a b).bind fun e =>
 (FF cF [x0, x1, (vi 1), e] b).bind fun c =>
 (aB 3 a c.2).bind fun f =>
 (FF dQ [x0, f] c.2).bind fun d =>
 some (d.1, d.2)) = some r) : FF cg [x0, x1, x2] H = some r :=
 fo Tryz.func56 (by kernel_rfl) h
theorem BH {r : Value × AH} (h : (
 aV [(vi 0), (vi 0), (vi 0)] H fun a c =>
 im [(0, 1), (1, 1), (2, 1)] [(vi 0), (vi 0), (vi 0)] [(0, (vi 10)), (1, x0), (2, x1)] fun d =>
 (dg 3 a d c).bind fun b =>
 (aB 3 a b).bind fun e => some (e, b)) = some r) : FF j3 [x0, x1] H = some r :=
 fo Tryz.func57 (by kernel_rfl) h
theorem qS {r : Value × AH} (h : (
 (ak .other .geq x1 (vi 0)).bind fun a =>
 (gV a true x1).bind fun b =>
 (gV a true x0).bind fun c =>
 fH a true  [.n, .f 10] c H fun d =>
 (uR (yv a) true (fq d some) (some undef)).bind fun e =>
 (gB a true (ak .other .lss b e)).bind fun g =>
 (aQ a g (vb false)).bind fun i =>
 some (i, H)) = some r) : FF ej [x0, x1] H = some r :=
 fo Tryz.func58 (by kernel_rfl) h
theorem xp {r : Value × AH} (h : (
 aV (Value.cells x2).toList H fun b a =>
 (aB 3 b a).bind fun c =>
 (FF cF [x0, x1, (vi 5), c] a).bind fun d =>
 some (Value.tuple #[], d.2)) = some r) : FF ir [x0, x1, x2] H = some r :=
 fo Tryz.func59 (by kernel_rfl) h
theorem tN {r : Value × AH} (h : (
 aV (Value.cells x0).toList H fun a b =>
 ld [.f 0] a b fun d =>
 (FF f3 [d, x1, x2] b).bind fun c =>
 ld [.f 1] a c.2 fun e =>
 (FF iv [e, x1, x2] c.2).bind fun g =>
 some (Value.tuple #[], g.2)) = some r) : FF iW [x0, x1, x2] H = some r :=
 fo Tryz.func60 (by kernel_rfl) h
theorem Ip {r : Value × AH} (h : (
 aV (Value.cells x2).toList H fun b a =>
 (aB 4 b a).bind fun e =>
 ld [.n, .f 2] x0 a fun g =>
 ld [.f 1] b a fun i =>
 (FF f4 [g, i] a).bind fun c =>
 bw (aB 4 b c.2) (aB 4 b a) <|
 im [(0, 1), (1, 1), (2, 4), (6, 1), (7, 1), (8, 1), (9, 1), (10, 1), (11, 1), (12, 1), (13, 1), (14, 1), (15, 1)] [(.pointer none), (vi 0), (vi 0), (vi 0), (vi 0), (vi 0), (vi 0), Value.nilFunc, (vi 0), (vi 0), (vb false), (.pointer none), (vw 0), (vw 0), (vi 0), (vw 0)] [(0, x0), (1, x1), (2, e), (3, c.1)] fun j =>
 aV (Value.cells j).toList c.2 fun d k =>
 st 1 [.n, .f 7] d (.func (.func kV) #[d] #[]) k fun l =>
 some (d, l)) = some r) : FF vE [x0, x1, x2] H = some r :=
 fo Tryz.func61 (by kernel_rfl) h
theorem Au {r : Value × AH} (h : (
 aV (Value.cells x2).toList H fun b a =>
 (aB 4 b a).bind fun c =>
 im [(0, 1), (1, 1), (2, 4), (6, 1), (7, 1), (8, 1), (9, 1), (10, 1), (11, 1), (12, 1), (13, 1), (14, 1), (15, 1), (16, 1), (17, 4), (21, 1), (22, 1), (23, 1), (24, 1), (25, 1), (26, 3), (29, 1), (30, 4)] [(.pointer none), (vi 0), (vi 0), (vi 0), (vi 0), (vi 0), (vi 0), (vi 0), (vi 0), (vb false), (vi 0), (vw 0), (vw 0), (vw 0), (vw 0), (vw 0), (vi 0), (vi 0), (.slice none 0 0), (vi 0), (vw 0), (vi 0), (vi 0), (.slice none 0 0), (vw 0), (vw 0), (vi 0), (vi 0), (vi 0), (vb false), (vi 0), (.slice none 0 0), (vi 0), (vw 0)] [(0, x0), (1, x1), (2, c), (5, (vi (-1)))] fun d =>
 aV (Value.cells d).toList a fun e f =>
 some (e, f)) = some r) : FF mh [x0, x1, x2] H = some r :=
 fo Tryz.func62 (by kernel_rfl) h
theorem Ia {r : Value × AH} (h : (
 aV [(vi 0), (.slice none 0 0), (vi 0), (vw 0)] H fun b d =>
 ld [.n, .f 7] x0 d fun g =>
 (b6 g [x1]).bind fun c => (FF c.1 c.2 d).bind fun a =>
 (ai a.1 0).bind fun i =>
 (ai a.1 1).bind fun j =>
 (dg 4 b i a.2).bind fun e =>
 (aB 4 b e).bind fun k => some (Value.tuple #[k, j], e)) = some r) : FF vD [x0, x1] H = some r :=
 fo Tryz.func63 (by kernel_rfl) h
end
end Go.Proofs.YtghoamdlcjdfjaaGreatDoor.Gst
