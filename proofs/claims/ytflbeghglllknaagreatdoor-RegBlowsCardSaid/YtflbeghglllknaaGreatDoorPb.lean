/- Several texts in one. -/
import Derived.Test.YtflbeghglllknaaGreatDoorPa
namespace Go.Proofs.YtflbeghglllknaaGreatDoor.Gst
open Go Go.RowKit
set_option linter.unusedSimpArgs false
def u2 (ops : List Oper) : Bool :=
 let ms := cp ops
 ops.zipIdx.all (fun p => p.1.after.toList.all fun e => !Region.binds .any e || decide (e.on < p.2)) &&
 ops.zipIdx.all fun q => (ops.zipIdx.take q.2).all fun p => fb ms p.2 q.2 || (p.1.apart ops.toArray q.1 && !(lE p.1.op == 3 && lE q.1.op == 3))
def d9 (ops : List Oper) : List (Nat × Nat) :=
 let ms := cp ops
 (ops.zipIdx.filter fun p => lE p.1.op == 2).flatMap fun p => ((ops.zipIdx.filter fun q => lE q.1.op == 3 && !fb ms q.2 p.2 && !fb ms p.2 q.2).map fun q => (p.2, q.2))
def j7 (P : Program) (G : List Nat) (call : bM) (ops : Array Oper) (A : List Value) (H : AH) (i : Nat) : List Value × AH := (dl P G call ops (ops.toList.take i) A H).getD (A, H)
def km (P : Program) (s : Nat → List Value × AH) (ops : Array Oper) (p : Nat × Nat) : Prop :=
 ∀ o, ops[p.1]? = some o → DO P (f8 (s p.1).1) o.op (s (if p.2 < p.1 then p.2 else p.2 + 1)).2 = DO P (f8 (s p.1).1) o.op (s p.1).2
open Classical in
noncomputable def NG {α : Type} (p : Prop) (x : Option α) : Option α := if p then x else none
theorem oZ {α : Type} {p : Prop} {x : Option α} {r : α} (h : NG p x = some r) : p ∧ x = some r := by
 unfold NG at h
 split at h
 ·exact ⟨by assumption, h⟩
 ·cases h
theorem la {α : Type} {p : Prop} (h : p) (x : Option α) : NG p x = x := by unfold NG; rw [if_pos h]
noncomputable def nG (P : Program) (G : List Nat) (call : bM) (ops : Array Oper) (A : List Value) (H : AH) : Option (List Value × AH) :=
 match u2 ops.toList with
 | false => none
 | true => match d9 ops.toList with
  | [] => dl P G call ops ops.toList A H
  | p :: ps => NG (∀ q ∈ p :: ps, km P (j7 P G call ops A H) ops q) (dl P G call ops ops.toList A H)
theorem gL {P : Program} {G : List Nat} {call : bM} {ops : Array Oper} {A : List Value} {H : AH} {r : List Value × AH} (h : nG P G call ops A H = some r) :
 u2 ops.toList = true ∧ (∀ p ∈ d9 ops.toList, km P (j7 P G call ops A H) ops p) ∧ dl P G call ops ops.toList A H = some r := by
 unfold nG at h
 cases h1 : u2 ops.toList with
 | false => rw [h1] at h; cases h
 | true =>
  rw [h1] at h;refine ⟨rfl, ?_⟩
  cases h2 : d9 ops.toList with
  | nil => rw [h2] at h; exact ⟨fun p hp => (by cases hp), h⟩
  | cons p ps =>
   rw [h2] at h;exact oZ h
section
variable {P : Program} {w0 : World} {B : Nat} {ρ : bT} {H : AH} {w : World} {G : List Nat} {call : bM} {ops : Array Oper}
theorem AQ (l1 l2 : List Oper) (A : List Value) (H : AH) : dl P G call ops (l1 ++ l2) A H = (dl P G call ops l1 A H).bind fun s => dl P G call ops l2 s.1 s.2 := by
 induction l1 generalizing A H with
 | nil => rfl
 | cons o l ih =>
  simp only [List.cons_append, dl];rw [Option.bind_assoc]
  congr 1
  funext s
  exact ih s.1 s.2
theorem y9 {A : List Value} {r : List Value × AH} (h : dl P G call ops ops.toList A H = some r) (i : Nat) : dl P G call ops (ops.toList.take i) A H = some (j7 P G call ops A H i) := by
 unfold j7;have e : ops.toList = ops.toList.take i ++ ops.toList.drop i := (List.take_append_drop ..).symm;rw [e, AQ] at h;obtain ⟨s, hs, _⟩ := aI.1 h;rw [hs]; rfl
theorem an9 (A : List Value) : j7 P G call ops A H 0 = (A, H) := rfl
theorem ar8 {A : List Value} {r : List Value × AH} (h : dl P G call ops ops.toList A H = some r) : j7 P G call ops A H ops.size = r := by
 unfold j7;rw [show ops.size = ops.toList.length by simp, List.take_length, h]
 rfl
theorem P3 {A : List Value} {r : List Value × AH} (h : dl P G call ops ops.toList A H = some r) {i : Nat} {o : Oper} (ho : ops[i]? = some o) :
 gM P G call ops o (j7 P G call ops A H i).1 (j7 P G call ops A H i).2 = some (j7 P G call ops A H (i + 1)) := by
 have ho' : ops.toList[i]? = some o := by simpa using ho
 have h1 := y9 h (i + 1);rw [List.take_add_one, ho', Option.toList_some, AQ, y9 h i] at h1;simp only [bO, dl] at h1;obtain ⟨s, hs, e⟩ := aI.1 h1;rw [hs];exact e
noncomputable def axF (P : Program) (G : List Nat) (call : bM) (ops : Array Oper) (A : List Value) (H : AH) (i : Nat) : Value :=
 match ops[i]? with
 | some o => if Region.wanted o (dT ops (j7 P G call ops A H i).1) = true then ((fp P call (f8 (j7 P G call ops A H i).1) o (j7 P G call ops A H i).2).map (·.1)).getD undef else undef
 | none => undef
theorem Tz (h : u2 ops.toList = true) : ∀ j o, ops[j]? = some o → ∀ e ∈ o.after, Region.binds .any e = true → e.on < j := by
 intro j o ho e he hb;unfold u2 at h;simp only [Bool.and_eq_true, List.all_eq_true] at h
 have ho' : ops.toList[j]? = some o := by simpa using ho
 have hm : (o, j) ∈ ops.toList.zipIdx := by
  rw [List.mem_iff_getElem?];exact ⟨j, by rw [List.getElem?_zipIdx, ho']; simp⟩
 have := h.1 (o, j) hm e (by simpa using he)
 simpa [hb] using this
theorem TA (h : u2 ops.toList = true) : ∀ i j oi oj, i < j → ops[i]? = some oi → ops[j]? = some oj → fb (cp ops.toList) i j = true ∨ (oi.apart ops oj = true ∧ ¬ (lE oi.op = 3 ∧ lE oj.op = 3)) := by
 intro i j oi oj hij hi hj;unfold u2 at h;simp only [Bool.and_eq_true, List.all_eq_true] at h
 have hi' : ops.toList[i]? = some oi := by simpa using hi
 have hj' : ops.toList[j]? = some oj := by simpa using hj
 have hm : (oj, j) ∈ ops.toList.zipIdx := by
  rw [List.mem_iff_getElem?];exact ⟨j, by rw [List.getElem?_zipIdx, hj']; simp⟩
 have hm2 : (oi, i) ∈ ops.toList.zipIdx.take j := by
  rw [List.mem_iff_getElem?];exact ⟨i, by rw [List.getElem?_take, if_pos hij, List.getElem?_zipIdx, hi']; simp⟩
 have := h.2 (oj, j) hm (oi, i) hm2;simp only [Bool.or_eq_true, Bool.and_eq_true, Bool.not_eq_true', Bool.and_eq_false_iff, beq_eq_false_iff_ne, Array.toArray_toList] at this
 rcases this with h1 | ⟨h1, h2⟩
 ·exact .inl h1
 ·exact .inr ⟨h1, fun h3 => by rcases h2 with h2 | h2; exact h2 h3.1; exact h2 h3.2⟩
theorem HP {j e : Nat} {oj oe : Oper} (hj : ops[j]? = some oj) (he : ops[e]? = some oe) (h2 : lE oj.op = 2) (h3 : lE oe.op = 3) (hf1 : fb (cp ops.toList) e j = false) (hf2 : fb (cp ops.toList) j e = false) : (j, e) ∈ d9 ops.toList := by
 have hj' : ops.toList[j]? = some oj := by simpa using hj
 have he' : ops.toList[e]? = some oe := by simpa using he
 unfold d9;simp only [List.mem_flatMap, List.mem_filter, List.mem_map];refine ⟨(oj, j), ⟨?_, by simp [h2]⟩, (oe, e), ⟨?_, by simp [h3, hf1, hf2]⟩, rfl⟩
 ·rw [List.mem_iff_getElem?]; exact ⟨j, by rw [List.getElem?_zipIdx, hj']; simp⟩
 ·rw [List.mem_iff_getElem?]; exact ⟨e, by rw [List.getElem?_zipIdx, he']; simp⟩
noncomputable def atJ {A : List Value} {r : List Value × AH} (h : nG P G call ops A H = some r) : Tra P G call ops where
 s := j7 P G call ops A H
 val := axF P G call ops A H
 step := fun i o ho => by
  obtain ⟨_, _, hr⟩ := gL h;have hs := P3 hr ho;unfold gM at hs
  split at hs
  ·rename_i hok
   refine ⟨hok, ?_⟩;unfold axF;rw [ho];simp only
   split at hs
   ·rename_i hw
    obtain ⟨⟨v, H2⟩, hv, e⟩ := bh.1 hs;rw [if_pos hw, hv, ← e];exact ⟨rfl, .inl ⟨hw, rfl⟩⟩
   ·rename_i hw
    rw [if_neg hw];have e := (iP hs).symm;rw [e];exact ⟨rfl, .inr ⟨by simpa using hw, rfl, rfl⟩⟩
  ·cases hs
 back := Tz (gL h).1
 pair := TA (gL h).1
 look := fun j e oj oe hj he h2 h3 hf1 hf2 => (gL h).2.1 (j, e) (HP hj he h2 h3 hf1 hf2) oj hj
theorem QX (hcall : mK P G call) (hmono : iH call) (hm : P.follows .mixedOrders = true) {id : Nat} {Q : Exit → Act → World → Prop} {A : List Value} {a : Act} {A' : List Value} {H' : AH} (h : nG P G call ops A H = some (A', H'))
 (hA : cB P ρ A a) (hG : GlobRel ρ G) (hR : Rel P w0 B ρ H w) (hQ : ∀ a' w', DG P w0 B G ρ H w A' H' a' w' → Q .normal a' w') : (Code.region id ops true).wp P Q a w := by
 have W : Way (atJ h) w0 B ρ w.drew := ⟨hcall, hmono, hG, hR.drew, ⟨a, hA⟩⟩;refine TE W hm (w := w) rfl hA (fun a' w' hp => hQ a' w' ?_);obtain ⟨ρ', h1, h2, h3, h4⟩ := hp;have e : (atJ h).s ops.size = (A', H') := ar8 (gL h).2.2;rw [e] at h1 h3 h4;exact ⟨ρ', h1, h2, jr.of_drew h3, h4⟩
end
inductive AE where
 | normal
 | exit (id : Nat)
 | ret
deriving DecidableEq
abbrev AR := AE × List Value × AH
def fG (f : List Value → AH → Option AR) : Nat → List Value → AH → Option AR
 | 0, _, _ => none
 | n + 1, A, H => (f A H).bind fun r => match r.1 with
  | .normal => fG f n r.2.1 r.2.2
  | _ => some r
theorem DM {f : List Value → AH → Option AR} {n : Nat} {A : List Value} {H : AH} {r : AR} (h : fG f n A H = some r) : ∀ m, n ≤ m → fG f m A H = some r := by
 induction n generalizing A H with
 | zero => cases h
 | succ n ih =>
  intro m hm;obtain ⟨m, rfl⟩ : ∃ k, m = k + 1 := ⟨m - 1, by omega⟩;simp only [fG] at h ⊢;obtain ⟨s, hs, h⟩ := aI.1 h;rw [hs];simp only [bO]
  split at h
  ·exact ih h m (by omega)
  ·exact h
open Classical in
noncomputable def qP (f : List Value → AH → Option AR) (A : List Value) (H : AH) : Option AR := if h : ∃ n r, fG f n A H = some r then some h.choose_spec.choose else none
theorem dk {f : List Value → AH → Option AR} {A : List Value} {H : AH} {r : AR} : qP f A H = some r ↔ ∃ n, fG f n A H = some r := by
 unfold qP
 constructor
 ·intro h
  split at h
  ·rename_i hx
   cases h;exact ⟨_, hx.choose_spec.choose_spec⟩
  ·cases h
 ·rintro ⟨n, hn⟩
  have hx : ∃ n r, fG f n A H = some r := ⟨n, r, hn⟩;rw [dif_pos hx];have h1 := DM hx.choose_spec.choose_spec (max n hx.choose) (Nat.le_max_right ..);have h2 := DM hn (max n hx.choose) (Nat.le_max_left ..);rw [h2] at h1;exact h1.symm
theorem afH (f : List Value → AH → Option AR) (A : List Value) (H : AH) : qP f A H = (f A H).bind fun r => match r.1 with | .normal => qP f r.2.1 r.2.2 | _ => some r := by
 apply Option.ext;intro r;rw [dk]
 constructor
 ·rintro ⟨n, hn⟩
  cases n with
  | zero => cases hn
  | succ n =>
   simp only [fG] at hn;obtain ⟨s, hs, h⟩ := aI.1 hn;rw [hs];simp only [bO]
   split at h
   ·exact dk.2 ⟨n, h⟩
   ·exact h
 ·intro h
  obtain ⟨s, hs, h⟩ := aI.1 h
  split at h
  ·rename_i e
   obtain ⟨n, hn⟩ := dk.1 h;refine ⟨n + 1, ?_⟩;simp only [fG, hs, bO, e];exact hn
  ·rename_i e
   refine ⟨1, ?_⟩;simp only [fG, hs, bO];exact h
noncomputable def gz (P : Program) (G : List Nat) (call : bM) (ops : Array Oper) (draw : Bool) (A : List Value) (H : AH) : Option (List Value × AH) :=
 match draw with
 | true => nG P G call ops A H
 | false => dl P G call ops ops.toList A H
noncomputable def aX (P : Program) (G : List Nat) (call : bM) : Code → List Value → AH → Option AR
 | .skip, A, H => some (.normal, A, H)
 | .label _, A, H => some (.normal, A, H)
 | .region _ ops draw, A, H => (gz P G call ops draw A H).map fun s => (.normal, s.1, s.2)
 | .seq x y, A, H => (aX P G call x A H).bind fun r => match r.1 with
  | .normal => aX P G call y r.2.1 r.2.2
  | _ => some r
 | .cond c x y, A, H => match f8 A c with
  | .bool true => aX P G call x A H
  | .bool false => aX P G call y A H
  | _ => none
 | .block id x, A, H => (aX P G call x A H).map fun r => match r.1 with
  | .exit i => if i = id then (.normal, r.2.1, r.2.2) else r
  | _ => r
 | .loop x, A, H => qP (aX P G call x) A H
 | .exit id, A, H => some (.exit id, A, H)
 | .ret, A, H => some (.ret, A, H)
 | _, _, _ => none
def AE.to : AE → Exit
 | .normal => .normal
 | .exit id => .exit id
 | .ret => .ret
section
variable {P : Program} {w0 : World} {B : Nat} {G : List Nat} {call : bM}
theorem DG.trans {ρ ρ1 : bT} {H H1 H2 : AH} {w w1 w2 : World} {A2 : List Value} {a2 : Act} (hR : Rel P w0 B ρ H w) (hE : jr ρ H w ρ1 H1 w1) (h : DG P w0 B G ρ1 H1 w1 A2 H2 a2 w2) : DG P w0 B G ρ H w A2 H2 a2 w2 := by
 obtain ⟨ρ', h1, h2, h3, h4⟩ := h;exact ⟨ρ', h1, h2, hE.trans hR h3, h4⟩
theorem Ee (hcall : mK P G call) (hmono : iH call) (hm : P.follows .mixedOrders = true) : ∀ (c : Code) {Q : Exit → Act → World → Prop} {ρ : bT} {A : List Value} {H : AH} {a : Act} {w : World} {e : AE} {A' : List Value} {H' : AH},
 aX P G call c A H = some (e, A', H') → cB P ρ A a → GlobRel ρ G → Rel P w0 B ρ H w → (∀ a' w', DG P w0 B G ρ H w A' H' a' w' → Q e.to a' w') → c.wp P Q a w := by
 intro c
 induction c with
 | skip =>
  intro Q ρ A H a w e A' H' h hA hG hR hQ;simp only [aX] at h; cases h;exact wp_skip (hQ a w ⟨ρ, hA, hG, jr.refl _ _ _, hR⟩)
 | label l =>
  intro Q ρ A H a w e A' H' h hA hG hR hQ;simp only [aX] at h; cases h;exact wp_label (hQ a w ⟨ρ, hA, hG, jr.refl _ _ _, hR⟩)
 | exit id =>
  intro Q ρ A H a w e A' H' h hA hG hR hQ;simp only [aX] at h; cases h;exact wp_exit (hQ a w ⟨ρ, hA, hG, jr.refl _ _ _, hR⟩)
 | ret =>
  intro Q ρ A H a w e A' H' h hA hG hR hQ;simp only [aX] at h; cases h;exact wp_ret (hQ a w ⟨ρ, hA, hG, jr.refl _ _ _, hR⟩)
 | region id ops draw =>
  intro Q ρ A H a w e A' H' h hA hG hR hQ;simp only [aX] at h;obtain ⟨⟨A1, H1⟩, hs, e1⟩ := bh.1 h;cases e1
  cases draw with
  | true => exact QX hcall hmono hm hs hA hG hR hQ
  | false => exact PF hcall hs hA hG hR hQ
 | seq x y ihx ihy =>
  intro Q ρ A H a w e A' H' h hA hG hR hQ;simp only [aX] at h;obtain ⟨⟨e1, A1, H1⟩, hx, h⟩ := aI.1 h;refine wp_seq (ihx hx hA hG hR (fun a1 w1 hp => ?_))
  cases e1 with
  | normal =>
   simp only at h;obtain ⟨ρ1, hA1, hG1, hE1, hR1⟩ := hp;exact ihy h hA1 hG1 hR1 (fun a' w' hp => hQ a' w' (hp.trans hR hE1))
  | exit id => simp only at h; cases h; exact hQ a1 w1 hp
  | ret => simp only at h; cases h; exact hQ a1 w1 hp
 | cond c x y ihx ihy =>
  intro Q ρ A H a w e A' H' h hA hG hR hQ;simp only [aX] at h
  have hc : ∀ t, f8 A c = .bool t → a.eval c = .bool t := by
   intro t ht
   cases c with
   | tmp u =>
    simp only [f8] at ht
    cases hx : A[u]? with
    | none => rw [hx] at ht; simp [undef] at ht
    | some x =>
     rw [hx] at ht;simp only [Option.getD_some] at ht;subst ht;obtain ⟨y, hy, hv⟩ := hA.tmps.get hx;rw [Array.getElem?_toList] at hy;simp only [Act.eval, Array.getD_eq_getD_getElem?, hy, Option.getD_some];exact hv.bool_inv
   | const v => exact ht
   | global g => cases ht
   | func f => cases ht
  split at h
  ·rename_i ht; exact wp_cond (hc _ ht) (ihx h hA hG hR hQ)
  ·rename_i ht; exact wp_cond (hc _ ht) (ihy h hA hG hR hQ)
  ·cases h
 | block id x ih =>
  intro Q ρ A H a w e A' H' h hA hG hR hQ;simp only [aX] at h;obtain ⟨⟨e1, A1, H1⟩, hx, e2⟩ := bh.1 h;refine wp_block (ih hx hA hG hR (fun a1 w1 hp => ?_))
  cases e1 with
  | normal => simp only at e2; cases e2; exact hQ a1 w1 hp
  | ret => simp only at e2; cases e2; exact hQ a1 w1 hp
  | exit i =>
   simp only at e2;simp only [AE.to, Exit.inBlock]
   split at e2
   ·rename_i hi; cases e2; rw [if_pos hi]; exact hQ a1 w1 hp
   ·rename_i hi; cases e2; rw [if_neg hi]; exact hQ a1 w1 hp
 | loop x ih =>
  intro Q ρ A H a w e A' H' h hA hG hR hQ;simp only [aX] at h;obtain ⟨n, hn⟩ := dk.1 h;refine wp_loop_rounds n ?_
  clear h
  induction n generalizing ρ A H a w with
  | zero => cases hn
  | succ n ihn =>
   simp only [fG] at hn;obtain ⟨⟨e1, A1, H1⟩, hx, h⟩ := aI.1 hn;rw [rounds_succ];refine ih hx hA hG hR (fun a1 w1 hp => ?_)
   cases e1 with
   | normal =>
    simp only at h;obtain ⟨ρ1, hA1, hG1, hE1, hR1⟩ := hp;exact ihn hA1 hG1 hR1 (fun a' w' hp => hQ a' w' (hp.trans hR hE1)) h
   | exit id => simp only at h; cases h; exact hQ a1 w1 hp
   | ret => simp only at h; cases h; exact hQ a1 w1 hp
 | rangeFunc f ps x y => intro Q ρ A H a w e A' H' h; simp [aX] at h
 | scope x => intro Q ρ A H a w e A' H' h; simp [aX] at h
 | goto l => intro Q ρ A H a w e A' H' h; simp [aX] at h
 | refuse s => intro Q ρ A H a w e A' H' h; simp [aX] at h
theorem tw (hm : iH call) {ops : Array Oper} : ∀ (l : List Oper) {A : List Value} {H : AH} {r : List Value × AH}, dl P G call ops l A H = some r → H.size ≤ r.2.size := by
 intro l
 induction l with
 | nil => intro A H r h; simp only [dl] at h; cases h; exact bA _
 | cons o l ih =>
  intro A H r h;simp only [dl] at h;obtain ⟨s, hs, h⟩ := aI.1 h;refine eE ?_ (ih h);unfold gM at hs
  split at hs
  ·split at hs
   ·obtain ⟨⟨v, H2⟩, hv, e⟩ := bh.1 hs
    cases e; exact Nm hm hv
   ·cases hs; exact bA _
  ·cases hs
theorem DK (hm : iH call) : ∀ (c : Code) {A : List Value} {H : AH} {r : AR}, aX P G call c A H = some r → H.size ≤ r.2.2.size := by
 intro c
 induction c with
 | skip => intro A H r h; simp only [aX] at h; cases h; exact bA _
 | label l => intro A H r h; simp only [aX] at h; cases h; exact bA _
 | exit id => intro A H r h; simp only [aX] at h; cases h; exact bA _
 | ret => intro A H r h; simp only [aX] at h; cases h; exact bA _
 | region id ops draw =>
  intro A H r h;simp only [aX] at h;obtain ⟨s, hs, e1⟩ := bh.1 h;cases e1
  cases draw with
  | true => exact tw hm _ (gL hs).2.2
  | false => exact tw hm _ hs
 | seq x y ihx ihy =>
  intro A H r h;simp only [aX] at h;obtain ⟨s, hx, h⟩ := aI.1 h;have h1 := ihx hx
  split at h
  ·exact eE h1 (ihy h)
  ·cases h; exact h1
 | cond c x y ihx ihy =>
  intro A H r h;simp only [aX] at h
  split at h
  ·exact ihx h
  ·exact ihy h
  ·cases h
 | block id x ih =>
  intro A H r h;simp only [aX] at h;obtain ⟨s, hx, e2⟩ := bh.1 h;have h1 := ih hx
  split at e2
  ·split at e2 <;> (subst e2; exact h1)
  ·subst e2; exact h1
 | loop x ih =>
  intro A H r h;simp only [aX] at h;obtain ⟨n, hn⟩ := dk.1 h
  clear h
  induction n generalizing A H with
  | zero => cases hn
  | succ n ihn =>
   simp only [fG] at hn;obtain ⟨s, hx, h⟩ := aI.1 hn;have h1 := ih hx
   split at h
   ·exact eE h1 (ihn h)
   ·cases h; exact h1
 | rangeFunc f ps x y => intro A H r h; simp [aX] at h
 | scope x => intro A H r h; simp [aX] at h
 | goto l => intro A H r h; simp [aX] at h
 | refuse s => intro A H r h; simp [aX] at h
end
def md (P : Program) (A : List Value) (H : AH) : ResultVar → Option Value
 | .tmp t => some (A[t]?.getD undef)
 | .cell a t => (f7 P t).bind fun g => match g with
  | some n => ax n (A[a]?.getD undef) H
  | none => ar (A[a]?.getD undef) H
def uC (P : Program) (A : List Value) (H : AH) : List ResultVar → Option (List Value)
 | [] => some []
 | r :: rs => (md P A H r).bind fun v => (uC P A H rs).bind fun vs => some (v :: vs)
def ju (P : Program) (A : List Value) (H : AH) (rs : List ResultVar) : Option Value := (uC P A H rs).map fun vs => match vs with
 | [v] => v
 | vs => .tuple vs.toArray
def afG (P : Program) (rs : List ResultVar) (r : AR) : Option (Value × AH) :=
 match r.1 with
 | .exit _ => none
 | _ => (ju P r.2.1 r.2.2 rs).map (·, r.2.2)
noncomputable def qO (P : Program) (G : List Nat) (call : bM) (n : Nat) (rs : List ResultVar) (c : Code) (args : List Value) (H : AH) : Option (Value × AH) :=
 (aX P G call c (args ++ List.replicate (n - args.length) undef) H).bind (afG P rs)
structure DSh where
 c1 : Code
 id2 : Nat
 ops2 : Array Oper
 om : Oper
 df : Oper
 t : Nat
 k : Nat
 id3 : Nat
 ops3 : Array Oper
def lG : Code → Option DSh
 | .seq c1 (.seq (.region id2 ops2 false) (.seq (.region id3 ops3 false) .ret)) => match ops2.toList with
  | [mk, df] => match mk.dst, mk.op, mk.guard, df.dst, df.op, df.guard with
   | some t, .makeFunc (.func k) first _, none, none, .defer ⟨.value (.tmp t'), args, _⟩, none => if t = t' ∧ first = #[] ∧ args = #[] then some ⟨c1, id2, ops2, mk, df, t, k, id3, ops3⟩ else none
   | _, _, _, _, _, _ => none
  | _ => none
 | _ => none
theorem NL {c : Code} {s : DSh} (h : lG c = some s) : c = .seq s.c1 (.seq (.region s.id2 s.ops2 false) (.seq (.region s.id3 s.ops3 false) .ret)) ∧ s.ops2.toList = [s.om, s.df] ∧ s.om.dst = some s.t ∧
 (∃ cap, s.om.op = .makeFunc (.func s.k) #[] cap) ∧ s.om.guard = none ∧ s.df.dst = none ∧ (∃ ats, s.df.op = .defer ⟨.value (.tmp s.t), #[], ats⟩) ∧ s.df.guard = none := by
 unfold lG at h
 split at h
 ·split at h
  ·rename_i hl
   split at h
   ·rename_i h1 h2 h3 h4 h5 h6
    split at h
    ·rename_i hc
     obtain ⟨rfl, rfl, rfl⟩ := hc;cases h;exact ⟨rfl, hl, h1, ⟨_, h2⟩, h3, h4, ⟨_, h5⟩, h6⟩
    ·cases h
   ·cases h
  ·cases h
 ·cases h
def wE (P : Program) (k : Nat) : Prop :=
 (∃ fn, P.funcs[k]? = some fn ∧ fn.body.isSome = true ∧ fn.name ≠ "runtime.NumGoroutine") ∧
 ∀ (args : Array Value) (w : World), CallsD P k args .returning w fun e u' w' => (∃ v, e = .returned v) ∧ u' = .returning ∧ w' = w
noncomputable def pU (P : Program) (G : List Nat) (call : bM) (n : Nat) (rs : List ResultVar) (s : DSh) (args : List Value) (H : AH) : Option (Value × AH) :=
 (aX P G call s.c1 (args ++ List.replicate (n - args.length) undef) H).bind fun r => match r.1 with
  | .normal => if r.2.1.length ≤ s.t then none else (gM P G call s.ops2 s.om r.2.1 r.2.2).bind fun q => (dl P G call s.ops3 s.ops3.toList q.1 q.2).bind fun z => (ju P z.1 z.2 rs).map (·, z.2)
  | _ => none
noncomputable def f6 (P : Program) (G : List Nat) : Nat → bM
 | 0 => fun _ _ _ => none
 | d + 1 => fun f args H => match P.funcs[f]? with
  | some fn => if fn.name = "runtime.NumGoroutine" then none else match fn.body with
   | some c => match lG c with
    | none => qO P G (f6 P G d) fn.ntmps fn.results.toList c args H
    | some s => NG (wE P s.k) (pU P G (f6 P G d) fn.ntmps fn.results.toList s args H)
   | none => none
  | none => none
section
variable {P : Program} {w0 : World} {B : Nat} {ρ : bT} {H : AH} {w : World} {G : List Nat} {call : bM}
theorem TK {A : List Value} {a : Act} (hA : cB P ρ A a) (hR : Rel P w0 B ρ H w) {r : ResultVar} {v : Value} (h : md P A H r = some v) :
 ∃ v', (match r with | .tmp t => pure (a.tmps.getD t undef) | .cell x t => do loadVar t (← asAddr (a.tmps.getD x undef)) : Sem Value).run P w = .ok v' w ∧ VRel P ρ v v' := by
 have slot : ∀ t, VRel P ρ (A[t]?.getD undef) (a.tmps.getD t undef) := fun t => zr (G := []) hA (fun g hg => by simp at hg) (x := .tmp t) rfl
 cases r with
 | tmp t => simp only [md] at h; cases h; exact ⟨_, rfl, slot t⟩
 | cell x t =>
  simp only [md] at h;obtain ⟨g, hg, h⟩ := aI.1 h
  cases g with
  | none =>
   obtain ⟨a', y', ha, hr, hv⟩ := ak8 hR h (slot x);refine ⟨y', ?_, hv⟩;simp only [ha];simp [asAddr, loadVar, pV hg]
   simpa using hr
  | some n =>
   obtain ⟨a', ys, ha, hr, hv⟩ := O1 hR h (slot x);obtain ⟨hag, hsz⟩ := pW hg w;refine ⟨.agg ys, ?_, hv⟩;simp only [ha];simp [asAddr, loadVar, hag, de hsz, hr]
theorem alD {A : List Value} {a : Act} (hA : cB P ρ A a) (hR : Rel P w0 B ρ H w) : ∀ {rs : List ResultVar} {vs : List Value}, uC P A H rs = some vs →
 ∃ vs', (rs.mapM (fun r => (match r with | .tmp t => pure (a.tmps.getD t undef) | .cell x t => do loadVar t (← asAddr (a.tmps.getD x undef)) : Sem Value))).run P w = .ok vs' w ∧ LRel P ρ vs vs' := by
 intro rs
 induction rs with
 | nil => intro vs h; simp only [uC] at h; cases h; exact ⟨[], rfl, LRel.nil⟩
 | cons r rs ih =>
  intro vs h;simp only [uC] at h;obtain ⟨v, hv, h⟩ := aI.1 h;obtain ⟨vs0, hvs, h⟩ := aI.1 h;cases h;obtain ⟨v', hr, hv'⟩ := TK hA hR hv;obtain ⟨vs', hrs, hvs'⟩ := ih hvs;refine ⟨v' :: vs', ?_, hvs'.cons hv'⟩;rw [List.mapM_cons];simp only [Sem.run_bind, hr, Result.andThen_ok, hrs, Sem.run_pure]
theorem Bu {A : List Value} {a : Act} (hA : cB P ρ A a) (hR : Rel P w0 B ρ H w) {fn : Func} {v : Value} (h : ju P A H fn.results.toList = some v) :
 ∃ v', (results fn a.tmps).run P w = .ok v' w ∧ VRel P ρ v v' := by
 unfold ju at h;obtain ⟨vs, hvs, e⟩ := bh.1 h;obtain ⟨vs', hrun, hl⟩ := alD hA hR hvs
 have hm : ∀ g : ResultVar → Sem Value, (fn.results.mapM g).run P w = ((fn.results.toList.mapM g >>= fun l => pure l.toArray : Sem (Array Value))).run P w := by
  intro g;rw [Array.mapM_eq_mapM_toList]
  rfl
 have h2 : (results fn a.tmps).run P w = .ok (if h : vs'.toArray.size = 1 then vs'.toArray[0] else .tuple vs'.toArray) w := by
  unfold results;rw [Sem.run_bind, hm, Sem.run_bind]
  erw [hrun]
  rfl
 refine ⟨_, h2, ?_⟩;have hlen := hl.1
 split at e
 ·rename_i x
  subst e
  match vs', hlen, hl with
  | [y], _, hl => simpa using hl.2 0 _ _ rfl rfl
 ·rename_i hne
  subst e
  have : ¬ vs'.toArray.size = 1 := by
   intro h1
   match vs, hlen, hne with
   | [x], _, hne => exact hne x rfl
   | [], hlen, _ => simp at hlen h1; omega
   | x :: y :: zs, hlen, _ => simp at hlen h1; omega
  rw [dif_neg this];exact .tuple (by simp [hlen]) (fun i x y hx hy => hl.2 i x y (by simpa using hx) (by simpa using hy))
theorem ST (hcall : mK P G call) {ops : Array Oper} (ds : List Deferred) {Q : Exit → Act → World → Prop} : ∀ (l : List Oper) {ρ : bT} {A : List Value} {H : AH} {a : Act} {w : World} {A' : List Value} {H' : AH}, dl P G call ops l A H = some (A', H') →
 cB P ρ A a → GlobRel ρ G → Rel P w0 B ρ H w → (∀ a' w', DG P w0 B G ρ H w A' H' a' w' → Q .normal { a' with defers := ds } w') → wpList P ops Q l { a with defers := ds } w := by
 intro l
 induction l with
 | nil =>
  intro ρ A H a w A' H' h hA hG hR hQ;simp only [dl] at h;cases h;exact hQ a w ⟨ρ, hA, hG, jr.refl _ _ _, hR⟩
 | cons o rest ih =>
  intro ρ A H a w A' H' h hA hG hR hQ;simp only [dl] at h;obtain ⟨⟨A1, H1⟩, hs, h⟩ := aI.1 h;simp only at h;unfold gM at hs
  split at hs
  ·rename_i hok
   unfold wpList;have hwr := wy hA ops o;rw [show Region.wanted o (yielded ops ({ a with defers := ds } : Act).tmps) = Region.wanted o (dT ops A) from hwr]
   split at hs
   ·rename_i hw
    rw [if_pos hw];obtain ⟨⟨v, H2⟩, ho, e⟩ := bh.1 hs;cases e;have hr := ye hcall hA hG hR hok ho;refine .inl (fF.wp (a := { a with defers := ds }) (fF.congr hr rfl) (fun v' w' hv => ?_));obtain ⟨ρ', hv, hE, hR'⟩ := hv;have := ih (a := a.put o.dst v') h (kV (hA.mono hE.le) o.dst hv) (hG.mono hE.le) hR' (fun a' w'' hp => hQ a' w'' (hp.trans hR hE))
    have e : ({ a.put o.dst v' with defers := ds } : Act) = ({ a with defers := ds } : Act).put o.dst v' := by cases o.dst <;> rfl
    rw [e] at this;exact this
   ·rename_i hw
    rw [if_neg hw];cases hs;have := ih (a := a.put o.dst undef) h (kV hA o.dst VRel.undef) hG hR hQ
    have e : ({ a.put o.dst undef with defers := ds } : Act) = ({ a with defers := ds } : Act).put o.dst undef := by cases o.dst <;> rfl
    rw [e] at this;exact this
  ·cases hs
theorem NK (hcall : mK P G call) (hmono : iH call) (hm : P.follows .mixedOrders = true) {f : Nat} {fn : Func} {c : Code} {s : DSh} (hf : P.funcs[f]? = some fn) (hb : fn.body = some c) (hd : lG c = some s)
 {args : List Value} {args' : Array Value} {v : Value} {H' : AH} (h : NG (wE P s.k) (pU P G call fn.ntmps fn.results.toList s args H) = some (v, H'))
 (hA : cB P ρ (args ++ List.replicate (fn.ntmps - args.length) undef) { tmps := args' ++ Array.replicate (fn.ntmps - args'.size) undef, defers := [] }) (hG : GlobRel ρ G) (hR : Rel P w0 B ρ H w) :
 Calls P f args' w fun e w' => ∃ v' ρ', e = .returned v' ∧ VRel P ρ' v v' ∧ jr ρ H w ρ' H' w' ∧ Rel P w0 B ρ' H' w' := by
 obtain ⟨⟨⟨fk, hfk, hbk, hnk⟩, hcd⟩, h⟩ := oZ h;obtain ⟨hc, hl2, hdst, ⟨cap, hop⟩, hg, hdd, ⟨ats, hdo⟩, hdg⟩ := NL hd;unfold pU at h;obtain ⟨⟨e1, A1, H1⟩, h1, h⟩ := aI.1 h
 cases e1 with
 | exit i => cases h
 | ret => cases h
 | normal =>
  simp only at h
  split at h
  ·cases h
  rename_i hlt
  obtain ⟨⟨A2, H2⟩, h2, h⟩ := aI.1 h;obtain ⟨⟨A3, H3⟩, h3, h⟩ := aI.1 h;obtain ⟨x, hx, e⟩ := bh.1 h;cases e;refine calls_of_wp_defers hf hb ?_;rw [hc];refine wp_seq (Ee hcall hmono hm s.c1 h1 hA hG hR (fun a1 w1 hp => ?_));obtain ⟨ρ1, hA1, hG1, hE1, hR1⟩ := hp;refine wp_seq (wp_region_list ?_);rw [hl2];have hd1 : a1.defers = [] := hA1.defers;unfold gM at h2
  split at h2
  ·rename_i hok
   have hwt : Region.wanted s.om (dT s.ops2 A1) = true := by simp [Region.wanted, hg]
   rw [if_pos hwt] at h2;obtain ⟨⟨y, H2'⟩, ho, e⟩ := bh.1 h2;cases e;refine wpList_plain hg (fun K hK => fF.wp (ye hcall hA1 hG1 hR1 hok ho) (fun v' w2 hv => hK _ _ ?_));obtain ⟨ρ2, hv, hE2, hR2⟩ := hv
   have hy : y = .func (.func s.k) #[] (cap.map (f8 A1)) := by
    unfold fp at ho;rw [hop] at ho;simp at ho;exact ho.1.symm
   rw [hy] at hv;obtain ⟨f', c', rfl, hf', _⟩ := hv.func_inv
   have hf0 : f' = #[] := by
    have := hf'.1;simp at this;exact Array.eq_empty_of_size_eq_zero (by simpa using this.symm)
   subst hf0;refine wpList_plain hdg (fun K' hK' => ?_)
   have ht : (a1.put s.om.dst (.func (.func s.k) #[] c')).eval (.tmp s.t) = .func (.func s.k) #[] c' := by
    have hsz : s.t < a1.tmps.size := by have := hA1.tmps.1; simp at this; omega
    rw [hdst];simp [Act.put, Act.eval, hsz, Array.getD]
   have hrun : (execOp (a1.put s.om.dst (.func (.func s.k) #[] c')).eval s.df).run P w2 = .ok (.defer { target := .fn (.func s.k) c', args := #[] }) w2 := by
    simp [execOp, hdo, resolve, ht, Deferred.ofValue]
   unfold Oper.wp;rw [hrun, Oper.upon_defer];refine hK' _ _ (wpList_nil ?_);rw [hdd];have hA2 := kV (hA1.mono hE2.le) s.om.dst hv
   have hpd : ∀ (a : Act) (d : Option Tmp) (x : Value), (a.put d x).defers = a.defers := by intro a d x; cases d <;> rfl
   have e : ({ a1.put s.om.dst (.func (.func s.k) #[] c') with defers := { target := .fn (.func s.k) c', args := #[] } :: (a1.put s.om.dst (.func (.func s.k) #[] c')).defers } : Act).put none undef
    = { a1.put s.om.dst (.func (.func s.k) #[] c') with defers := [{ target := .fn (.func s.k) c', args := #[] }] } := by
    rw [hpd, hd1]; rfl
   rw [e];show (Code.seq (.region s.id3 s.ops3 false) .ret).wp P _ _ _;rw [hy] at h3;refine wp_seq (wp_region_list (ST hcall _ _ h3 hA2 (hG1.mono hE2.le) hR2 (fun a3 w3 hp => ?_)));obtain ⟨ρ3, hA3, hG3, hE3, hR3⟩ := hp;refine wp_ret ?_;obtain ⟨v3, hr3, hv3⟩ := Bu hA3 hR3 hx
   have hbn : ¬ (fk.body = none) := by intro hb; rw [hb] at hbk; cases hbk
   refine leaves_cons (f := s.k) (args := c') (by simp) (by simp [invoke, callFunc, hfk, hnk, hbn]) (CallsD.mono (hcd _ _) ?_)
   rintro e' u' w' ⟨⟨v0, rfl⟩, rfl, rfl⟩
   exact ⟨v3, hr3, v3, ρ3, rfl, hv3, hE1.trans hR (hE2.trans hR1 hE3), hR3⟩
  ·cases h2
theorem Nl (hm : iH call) {n : Nat} {rs : List ResultVar} {s : DSh} {args : List Value} {v : Value} {H' : AH} (h : pU P G call n rs s args H = some (v, H')) : H.size ≤ H'.size := by
 unfold pU at h;obtain ⟨⟨e1, A1, H1⟩, h1, h⟩ := aI.1 h
 cases e1 with
 | exit i => cases h
 | ret => cases h
 | normal =>
  simp only at h
  split at h
  ·cases h
  obtain ⟨⟨A2, H2⟩, h2, h⟩ := aI.1 h;obtain ⟨⟨A3, H3⟩, h3, h⟩ := aI.1 h;obtain ⟨x, hx, e⟩ := bh.1 h;cases e;have g1 := DK hm _ h1;have g2 : H1.size ≤ H2.size := tw (P := P) (G := G) (call := call) hm [s.om] (ops := s.ops2) (A := A1) (H := H1) (r := (A2, H2)) (by simp [dl, h2]);have g3 := tw hm _ h3;simp only at g1 g3;exact eE g1 (eE g2 g3)
theorem Ec (hm : P.follows .mixedOrders = true) : ∀ d, mK P G (f6 P G d) ∧ iH (f6 P G d) := by
 intro d
 induction d with
 | zero => exact ⟨fun f args H v H' h => (by cases h), fun f args H v H' h => (by cases h)⟩
 | succ d ih =>
  constructor
  ·intro f args H v H' h
   simp only [f6] at h
   cases hf : P.funcs[f]? with
   | none => rw [hf] at h; cases h
   | some fn =>
    rw [hf] at h;simp only at h
    split at h
    ·cases h
    ·rename_i hname
     cases hb : fn.body with
     | none => rw [hb] at h; cases h
     | some c =>
      rw [hb] at h;simp only at h;refine ⟨⟨fn, rfl, by rw [hb]; rfl, hname⟩, fun w0 B ρ w args' hR hG hargs => ?_⟩
      have hA : cB P ρ (args ++ List.replicate (fn.ntmps - args.length) undef) { tmps := args'.toArray ++ Array.replicate (fn.ntmps - args'.toArray.size) undef, defers := [] } := by
       refine ⟨?_, rfl⟩;simp only [Array.toList_append, Array.toList_replicate, List.size_toArray];rw [hargs.1];refine hargs.append ⟨rfl, fun i x y hx hy => ?_⟩;rw [hx] at hy;cases hy;rw [List.getElem?_replicate] at hx
       split at hx
       ·cases hx; exact VRel.undef
       ·cases hx
      cases hd : lG c with
      | some s => rw [hd] at h; exact NK ih.1 ih.2 hm hf hb hd h hA hG hR
      | none =>
      rw [hd] at h;simp only [qO] at h;obtain ⟨⟨e, A', H2⟩, hc, h⟩ := aI.1 h;refine calls_of_wp hf hb ?_;refine Ee ih.1 ih.2 hm c hc hA hG hR (fun a' w' hp => ?_);obtain ⟨ρ', hA', hG', hE, hR'⟩ := hp
      have fin : ∀ {x : Value} {H3 : AH}, (ju P A' H2 fn.results.toList).map (·, H2) = some (x, H3) → a'.defers = [] ∧ ∃ v', (results fn a'.tmps).run P w' = .ok v' w' ∧ ∃ v'' ρ'', Ending.returned v' = .returned v'' ∧ VRel P ρ'' x v'' ∧ jr ρ H w ρ'' H3 w' ∧ Rel P w0 B ρ'' H3 w' := by
       intro x H3 hx;obtain ⟨y, hy, e⟩ := bh.1 hx;cases e;obtain ⟨v', hr, hv⟩ := Bu hA' hR' hy;exact ⟨hA'.defers, v', hr, v', ρ', rfl, hv, hE, hR'⟩
      cases e with
      | normal => exact fin h
      | ret => exact fin h
      | exit i => cases h
  ·intro f args H v H' h
   simp only [f6] at h
   cases hf : P.funcs[f]? with
   | none => rw [hf] at h; cases h
   | some fn =>
    rw [hf] at h;simp only at h
    split at h
    ·cases h
    ·cases hb : fn.body with
     | none => rw [hb] at h; cases h
     | some c =>
      rw [hb] at h;simp only [qO] at h
      cases hd : lG c with
      | some s =>
       rw [hd] at h;obtain ⟨_, h⟩ := oZ h;exact Nl ih.2 h
      | none =>
      rw [hd] at h;simp only at h;obtain ⟨⟨e, A', H2⟩, hc, h⟩ := aI.1 h;have h1 := DK ih.2 c hc;unfold afG at h
      split at h
      ·cases h
      ·obtain ⟨y, hy, e⟩ := bh.1 h
       cases e; exact h1
end
def CLe (c1 c2 : bM) : Prop := ∀ f args H r, c1 f args H = some r → c2 f args H = some r
section
variable {P : Program} {G : List Nat} {c1 c2 : bM}
theorem at7 (h : CLe c1 c2) {ev : Operand → Value} {o : Oper} {H : AH} {r : Value × AH} (hr : fp P c1 ev o H = some r) : fp P c2 ev o H = some r := by
 obtain ⟨dst, op, type, pos, after, guard⟩ := o
 cases op with
 | call c =>
  obtain ⟨callee, args, ats⟩ := c
  cases callee with
  | value f =>
   simp only [fp] at hr ⊢;obtain ⟨x, hx, hr⟩ := aI.1 hr;rw [hx];exact h _ _ _ _ hr
  | invoke r m => exact hr
  | builtin b => exact hr
 | makeMap t r => cases r <;> exact hr
 | slice t x lo hi mx => cases lo <;> cases hi <;> cases mx <;> exact hr
 | _ => exact hr
theorem DP (h : CLe c1 c2) {ops : Array Oper} {o : Oper} {A : List Value} {H : AH} {r : List Value × AH} (hr : gM P G c1 ops o A H = some r) : gM P G c2 ops o A H = some r := by
 unfold gM at hr ⊢
 split at hr
 ·rename_i hok
  rw [if_pos hok]
  split at hr
  ·rename_i hw
   rw [if_pos hw];obtain ⟨x, hx, e⟩ := bh.1 hr;rw [at7 h hx];exact congrArg some e
  ·rename_i hw
   rw [if_neg hw];exact hr
 ·cases hr
theorem tv (h : CLe c1 c2) {ops : Array Oper} : ∀ (l : List Oper) {A : List Value} {H : AH} {r : List Value × AH}, dl P G c1 ops l A H = some r → dl P G c2 ops l A H = some r := by
 intro l
 induction l with
 | nil => intro A H r hr; exact hr
 | cons o l ih =>
  intro A H r hr;simp only [dl] at hr ⊢;obtain ⟨s, hs, hr⟩ := aI.1 hr;rw [DP h hs];exact ih hr
theorem an8 (h : CLe c1 c2) {ops : Array Oper} {A : List Value} {H : AH} {r : List Value × AH} (hr : dl P G c1 ops ops.toList A H = some r) : j7 P G c2 ops A H = j7 P G c1 ops A H := by
 funext i
 have h1 := tv h _ (y9 hr i);unfold j7 at h1 ⊢;rw [h1]; rfl
theorem afF (h : CLe c1 c2) {ops : Array Oper} {A : List Value} {H : AH} {r : List Value × AH} (hr : nG P G c1 ops A H = some r) : nG P G c2 ops A H = some r := by
 obtain ⟨h1, h2, h3⟩ := gL hr;unfold nG;rw [h1];simp only
 cases h4 : d9 ops.toList with
 | nil => exact tv h _ h3
 | cons p ps =>
  simp only;rw [la ?_]
  ·exact tv h _ h3
  ·rw [an8 h h3, ← h4]; exact h2
theorem oX (h : CLe c1 c2) : ∀ (c : Code) {A : List Value} {H : AH} {r : AR}, aX P G c1 c A H = some r → aX P G c2 c A H = some r := by
 intro c
 induction c with
 | region id ops draw =>
  intro A H r hr;simp only [aX] at hr ⊢;obtain ⟨s, hs, e1⟩ := bh.1 hr
  have : gz P G c2 ops draw A H = some s := by
   cases draw with
   | true => exact afF h hs
   | false => exact tv h _ hs
  rw [this]; exact congrArg some e1
 | seq x y ihx ihy =>
  intro A H r hr;simp only [aX] at hr ⊢;obtain ⟨s, hx, hr⟩ := aI.1 hr;rw [ihx hx];simp only [bO]
  split at hr
  ·exact ihy hr
  ·exact hr
 | cond c x y ihx ihy =>
  intro A H r hr;simp only [aX] at hr ⊢
  split at hr
  ·exact ihx hr
  ·exact ihy hr
  ·cases hr
 | block id x ih =>
  intro A H r hr;simp only [aX] at hr ⊢;obtain ⟨s, hx, e2⟩ := bh.1 hr;rw [ih hx]; exact congrArg some e2
 | loop x ih =>
  intro A H r hr;simp only [aX] at hr ⊢;obtain ⟨n, hn⟩ := dk.1 hr;refine dk.2 ⟨n, ?_⟩
  clear hr
  induction n generalizing A H with
  | zero => cases hn
  | succ n ihn =>
   simp only [fG] at hn ⊢;obtain ⟨s, hx, hr⟩ := aI.1 hn;rw [ih hx];simp only [bO]
   split at hr
   ·exact ihn hr
   ·exact hr
 | _ => intro A H r hr; exact hr
theorem afE (h : CLe c1 c2) {n : Nat} {rs : List ResultVar} {c : Code} {args : List Value} {H : AH} {r : Value × AH} (hr : qO P G c1 n rs c args H = some r) : qO P G c2 n rs c args H = some r := by
 unfold qO at hr ⊢;obtain ⟨s, hs, hr⟩ := aI.1 hr;rw [oX h _ hs];exact hr
theorem YM (h : CLe c1 c2) {n : Nat} {rs : List ResultVar} {s : DSh} {args : List Value} {H : AH} {r : Value × AH} (hr : pU P G c1 n rs s args H = some r) : pU P G c2 n rs s args H = some r := by
 unfold pU at hr ⊢;obtain ⟨⟨e1, A1, H1⟩, h1, hr⟩ := aI.1 hr;rw [oX h _ h1];simp only [bO]
 cases e1 with
 | exit i => exact hr
 | ret => exact hr
 | normal =>
  simp only at hr ⊢
  split at hr
  ·cases hr
  rename_i hlt
  rw [if_neg hlt];obtain ⟨q, h2, hr⟩ := aI.1 hr;obtain ⟨z, h3, hr⟩ := aI.1 hr;rw [DP h h2];simp only [bO];rw [tv h _ h3];exact hr
theorem QG : ∀ d, CLe (f6 P G d) (f6 P G (d + 1)) := by
 intro d
 induction d with
 | zero => intro f args H r h; cases h
 | succ d ih =>
  intro f args H r h;rw [f6] at h ⊢;simp only [] at h ⊢
  cases hf : P.funcs[f]? with
  | none => rw [hf] at h; cases h
  | some fn =>
   rw [hf] at h;simp only at h ⊢
   split at h
   ·cases h
   ·rename_i hn
    rw [if_neg hn]
    cases hb : fn.body with
    | none => rw [hb] at h; cases h
    | some c =>
     rw [hb] at h;simp only at h ⊢
     cases hd : lG c with
     | none => rw [hd] at h; exact afE ih h
     | some s =>
      rw [hd] at h;obtain ⟨h1, h2⟩ := oZ h;simp only;rw [la h1];exact YM ih h2
theorem kZ {d e : Nat} (h : d ≤ e) : CLe (f6 P G d) (f6 P G e) := by
 induction e with
 | zero => rw [show d = 0 from by omega]; exact fun _ _ _ _ h => h
 | succ e ih =>
  by_cases hd : d = e + 1
  ·rw [hd]; exact fun _ _ _ _ h => h
  ·exact fun f args H r hr => QG e f args H r (ih (by omega) f args H r hr)
open Classical in
noncomputable def aF (P : Program) (G : List Nat) : bM := fun f args H => if h : ∃ d r, f6 P G d f args H = some r then some h.choose_spec.choose else none
theorem DL {f : Nat} {args : List Value} {H : AH} {r : Value × AH} : aF P G f args H = some r ↔ ∃ d, f6 P G d f args H = some r := by
 unfold aF
 constructor
 ·intro h
  split at h
  ·rename_i hx
   cases h;exact ⟨_, hx.choose_spec.choose_spec⟩
  ·cases h
 ·rintro ⟨n, hn⟩
  have hx : ∃ d r, f6 P G d f args H = some r := ⟨n, r, hn⟩;rw [dif_pos hx];have h1 := kZ (Nat.le_max_right n hx.choose) _ _ _ _ hx.choose_spec.choose_spec;have h2 := kZ (Nat.le_max_left n hx.choose) _ _ _ _ hn;rw [h2] at h1;exact h1.symm
theorem awQ (hm : P.follows .mixedOrders = true) : mK P G (aF P G) ∧ iH (aF P G) := by
 constructor
 ·intro f args H v H' h
  obtain ⟨d, hd⟩ := DL.1 h;exact (Ec hm d).1 f args H v H' hd
 ·intro f args H v H' h
  obtain ⟨d, hd⟩ := DL.1 h;exact (Ec hm d).2 f args H v H' hd
theorem apO {ev : Operand → Value} {o : Oper} {H : AH} {r : Value × AH} (h : fp P (aF P G) ev o H = some r) : ∃ d, fp P (f6 P G d) ev o H = some r := by
 obtain ⟨dst, op, type, pos, after, guard⟩ := o
 cases op with
 | call c =>
  obtain ⟨callee, args, ats⟩ := c
  cases callee with
  | value f =>
   simp only [fp] at h ⊢;obtain ⟨x, hx, h⟩ := aI.1 h;obtain ⟨d, hd⟩ := DL.1 h;exact ⟨d, by rw [hx]; exact hd⟩
  | invoke r m => exact ⟨0, h⟩
  | builtin b => exact ⟨0, h⟩
 | makeMap t r => cases r <;> exact ⟨0, h⟩
 | slice t x lo hi mx => cases lo <;> cases hi <;> cases mx <;> exact ⟨0, h⟩
 | _ => exact ⟨0, h⟩
theorem Nn {ops : Array Oper} : ∀ (l : List Oper) {A : List Value} {H : AH} {r : List Value × AH}, dl P G (aF P G) ops l A H = some r → ∃ d, dl P G (f6 P G d) ops l A H = some r := by
 intro l
 induction l with
 | nil => intro A H r hr; exact ⟨0, hr⟩
 | cons o l ih =>
  intro A H r hr;simp only [dl] at hr ⊢;obtain ⟨s, hs, hr⟩ := aI.1 hr;obtain ⟨d2, h2⟩ := ih hr
  have h1 : ∃ d, gM P G (f6 P G d) ops o A H = some s := by
   unfold gM at hs ⊢
   split at hs
   ·rename_i hok
    split at hs
    ·rename_i hw
     obtain ⟨x, hx, e⟩ := bh.1 hs;obtain ⟨d, hd⟩ := apO hx;exact ⟨d, by rw [if_pos hok, if_pos hw, hd]; exact congrArg some e⟩
    ·rename_i hw
     exact ⟨0, by rw [if_pos hok, if_neg hw]; exact hs⟩
   ·cases hs
  obtain ⟨d1, h1⟩ := h1;refine ⟨max d1 d2, ?_⟩;rw [DP (kZ (Nat.le_max_left ..)) h1];exact tv (kZ (Nat.le_max_right ..)) _ h2
theorem UM (d : Nat) : CLe (f6 P G d) (aF P G) := fun _ _ _ _ h => DL.2 ⟨d, h⟩
theorem No {ops : Array Oper} {draw : Bool} {A : List Value} {H : AH} {r : List Value × AH} (h : gz P G (aF P G) ops draw A H = some r) : ∃ d, gz P G (f6 P G d) ops draw A H = some r := by
 cases draw with
 | false => exact Nn _ h
 | true =>
  simp only [gz] at h ⊢;obtain ⟨h1, h2, h3⟩ := gL h;obtain ⟨d, hd⟩ := Nn _ h3;refine ⟨d, ?_⟩;unfold nG;rw [h1];simp only
  cases h4 : d9 ops.toList with
  | nil => exact hd
  | cons p ps =>
   simp only;rw [la ?_]
   ·exact hd
   ·rw [← an8 (UM d) hd, ← h4]; exact h2
theorem YL : ∀ (c : Code) {A : List Value} {H : AH} {r : AR}, aX P G (aF P G) c A H = some r → ∃ d, aX P G (f6 P G d) c A H = some r := by
 intro c
 induction c with
 | region id ops draw =>
  intro A H r hr;simp only [aX] at hr ⊢;obtain ⟨s, hs, e1⟩ := bh.1 hr;obtain ⟨d, hd⟩ := No hs;exact ⟨d, by rw [hd]; exact congrArg some e1⟩
 | seq x y ihx ihy =>
  intro A H r hr;simp only [aX] at hr ⊢;obtain ⟨s, hx, hr⟩ := aI.1 hr;obtain ⟨d1, h1⟩ := ihx hx
  split at hr
  ·rename_i e
   obtain ⟨d2, h2⟩ := ihy hr;refine ⟨max d1 d2, ?_⟩;rw [oX (kZ (Nat.le_max_left ..)) _ h1];simp only [bO, e];exact oX (kZ (Nat.le_max_right ..)) _ h2
  ·refine ⟨d1, ?_⟩
   rw [h1];simp only [bO];exact hr
 | cond c x y ihx ihy =>
  intro A H r hr;simp only [aX] at hr ⊢
  split at hr
  ·exact ihx hr
  ·exact ihy hr
  ·cases hr
 | block id x ih =>
  intro A H r hr;simp only [aX] at hr ⊢;obtain ⟨s, hx, e2⟩ := bh.1 hr;obtain ⟨d, hd⟩ := ih hx;exact ⟨d, by rw [hd]; exact congrArg some e2⟩
 | loop x ih =>
  intro A H r hr;simp only [aX] at hr ⊢;obtain ⟨n, hn⟩ := dk.1 hr
  have key : ∃ d, fG (aX P G (f6 P G d) x) n A H = some r := by
   clear hr
   induction n generalizing A H with
   | zero => cases hn
   | succ n ihn =>
    simp only [fG] at hn ⊢;obtain ⟨s, hx, hr⟩ := aI.1 hn;obtain ⟨d1, h1⟩ := ih hx
    split at hr
    ·rename_i e
     obtain ⟨d2, h2⟩ := ihn hr;refine ⟨max d1 d2, ?_⟩;rw [oX (kZ (Nat.le_max_left ..)) _ h1];simp only [bO, e]
     have key2 : ∀ (n : Nat) {A : List Value} {H : AH} {r : AR}, fG (aX P G (f6 P G d2) x) n A H = some r → fG (aX P G (f6 P G (max d1 d2)) x) n A H = some r := by
      intro n
      induction n with
      | zero => intro A H r h; cases h
      | succ n ih2 =>
       intro A H r h;simp only [fG] at h ⊢;obtain ⟨s, hx, hr⟩ := aI.1 h;rw [oX (kZ (Nat.le_max_right d1 d2)) _ hx];simp only [bO]
       split at hr
       ·exact ih2 hr
       ·exact hr
     exact key2 n h2
    ·refine ⟨d1, ?_⟩
     rw [h1];simp only [bO];exact hr
  obtain ⟨d, hd⟩ := key;exact ⟨d, dk.2 ⟨n, hd⟩⟩
 | _ => intro A H r hr; exact ⟨0, hr⟩
theorem awP {f : Nat} {fn : Func} {c : Code} (hf : P.funcs[f]? = some fn) (hb : fn.body = some c) (hn : fn.name ≠ "runtime.NumGoroutine") (hds : lG c = none) {args : List Value} {H : AH} {r : Value × AH}
 (h : qO P G (aF P G) fn.ntmps fn.results.toList c args H = some r) : aF P G f args H = some r := by
 unfold qO at h;obtain ⟨s, hs, h⟩ := aI.1 h;obtain ⟨d, hd⟩ := YL _ hs;refine DL.2 ⟨d + 1, ?_⟩;simp only [f6, hf, hb, if_neg hn, hds, qO, hd, bO];exact h
end
section
variable {R : Type}
abbrev tb {α β : Type} (x : Option α) (f : α → Option β) : Option β :=
 match x with
 | some a => f a
 | none => none
theorem Qc {α β : Type} (x : Option α) (f : α → Option β) : tb x f = x.bind f := by cases x <;> rfl
abbrev g6 (P : Program) (b : Builtin) (argTypes : Array TypeId) (args : List Value) (H : AH) (k : Value → AH → Option R) : Option R :=
 match b, args with
 | .len, [x] => match (argTypes[0]?).bind fun t => P.underlying t with
  | some (.slice _) => match x with | .slice _ n _ => k (.int .i64 n) H | _ => none
  | some .string => match x with | .string s => k (.int .i64 s.size) H | _ => none
  | some (.map _ _) => (oq x H).bind fun v => k v H
  | _ => none
 | .max, args => (iQ args).bind fun v => k v H
 | .min, args => (j3 args).bind fun v => k v H
 | .append, [s, x] => (argTypes[0]?).bind fun t => (cM P t).bind fun el => (cQ P el).bind fun e => (gi P el).bind fun by' => (bZ P el).bind fun z =>
  if z.cells.size = e ∧ (argTypes[1]?).bind (fun u => cM P u) = some el then (eJ e by' s x H).bind fun r => k r.1 r.2 else none
 | .delete, [m, key] => (argTypes[0]?).bind fun t => (cN P t).bind fun kt => (cV P kt.1).bind fun fl => (ol fl m key H).bind fun H' => k (.tuple #[]) H'
 | _, _ => none
abbrev ru (P : Program) (call : bM) (ev : Operand → Value) (o : Oper) (H : AH) (k : Value → AH → Option R) : Option R :=
 match o.op with
 | .move x => k (ev x) H
 | .assign x => k (ev x) H
 | .pick c a b => (aL (ev c) (ev a) (ev b)).bind fun v => k v H
 | .alloc t => (bZ P t).bind fun z => k (.pointer (some ⟨H.size, 0, none⟩)) (H.push (.cells false z.cells.toList))
 | .box _ x => k (.pointer (some ⟨H.size, 0, none⟩)) (H.push (.cells false (ev x).cells.toList))
 | .build t parts => match P.underlying t with
  | some (.struct fs) => (bZ P t).bind fun z => (jS P fs.toList).bind fun ps => (dq (ps[·]?) z.cells.toList (parts.toList.map fun p => (p.1, ev p.2))).bind fun cs => k (.agg cs.toArray) H
  | some (.array _ el) => (bZ P t).bind fun z => (cQ P el).bind fun e => (dq (fun i => some (i * e, e)) z.cells.toList (parts.toList.map fun p => (p.1, ev p.2))).bind fun cs => k (.agg cs.toArray) H
  | _ => none
 | .buildSlice t len parts => (cM P t).bind fun el => (cQ P el).bind fun e => (bZ P el).bind fun z =>
  if 0 < e ∧ z.cells.size = e ∧ len * e ≤ 2 ^ 24 then
   (dq (fun i => some (i * e, e)) (List.replicate len z.cells.toList).flatten (parts.toList.map fun p => (p.1, ev p.2))).bind fun cs => k (.slice (some ⟨H.size, 0, none⟩) len e) (H.push (.cells false cs))
  else none
 | .load t a => (f7 P t).bind fun g => match g with
  | some n => (ax n (ev a) H).bind fun v => k v H
  | none => (ar (ev a) H).bind fun v => k v H
 | .store t a x => (cQ P t).bind fun n => (cJ n (ev a) (ev x) H).bind fun H' => k undef H'
 | .nilCheck x => (vM (ev x)).bind fun v => k v H
 | .binOp op t x y _ => (ai (AW P t) op (ev x) (ev y)).bind fun v => k v H
 | .unOp op _ x => (ot op (ev x)).bind fun v => k v H
 | .convert src dst x => match P.underlying src with
  | some _ => (cf (sy P dst) (ev x)).bind fun v => k v H
  | none => none
 | .makeFunc fn first captured => k (.func fn (first.map ev) (captured.map ev)) H
 | .makeMap _ none => k (.map (some H.size)) (H.push (.map [] 0))
 | .makeSlice t l c => (cM P t).bind fun el => (cQ P el).bind fun e => (gi P el).bind fun by' => (bZ P el).bind fun z => (nl z.cells.toList e by' (ev l) (ev c) H).bind fun r => k r.1 r.2
 | .slice t x lo hi none => (cM P t).bind fun el => (cQ P el).bind fun e => (fV e (ev x) (lo.map ev) (hi.map ev)).bind fun v => k v H
 | .slice t x none (some hi) (some mx) => (cM P t).bind fun el => (cQ P el).bind fun _ => (jR (ev x) (ev hi) (ev mx)).bind fun v => k v H
 | .fieldAddr s x f => (kJ P s f).bind fun f => (cQ P f.type).bind fun n => if n = 0 then none else (HS f.offset (ev x)).bind fun v => k v H
 | .field s x f => (kJ P s f).bind fun f => (f7 P f.type).bind fun n => (lU n f.offset (ev x)).bind fun v => k v H
 | .indexAddr t x i => match P.underlying t with
  | some (.slice el) => (cQ P el).bind fun e => (pK e (ev x) (ev i)).bind fun v => k v H
  | some (.array len el) => (cQ P el).bind fun e => (jp len e (ev x) (ev i)).bind fun v => k v H
  | _ => none
 | .index t x i => match P.underlying t with
  | some (.array len el) => (cQ P el).bind fun e => (f7 P el).bind fun n => (jQ len n e (ev x) (ev i)).bind fun v => k v H
  | some .string => (jP (ev x) (ev i)).bind fun v => k v H
  | _ => none
 | .lookup t m key ok => (cN P t).bind fun kt => (cV P kt.1).bind fun fl => (bZ P kt.2).bind fun z => (cY fl z (ev m) (ev key) ok H).bind fun v => k v H
 | .mapUpdate t m key x => (cN P t).bind fun kt => (cV P kt.1).bind fun fl => (fj fl (ev m) (ev key) (ev x) H).bind fun H' => k undef H'
 | .extract t i => (ag (ev t) i).bind fun v => k v H
 | .call c => match c.callee with
  | .builtin b => g6 P b c.argTypes (c.args.toList.map ev) H k
  | .value f => (ce (ev f) (c.args.toList.map ev)).bind fun fa => (call fa.1 fa.2 H).bind fun r => k r.1 r.2
  | _ => none
 | _ => none
abbrev Eb (P : Program) (b : Builtin) (argTypes : Array TypeId) (args : List Value) (H : AH) (k : Value → AH → Option R) : Option R :=
 match b, args with
 | .len, [x] => match (argTypes[0]?).bind fun t => P.underlying t with
  | some (.slice _) => match x with | .slice _ n _ => k (.int .i64 n) H | _ => none
  | some .string => match x with | .string s => k (.int .i64 s.size) H | _ => none
  | some (.map _ _) => (oq x H).bind fun v => k v H
  | _ => none
 | .max, args => (iQ args).bind fun v => k v H
 | .min, args => (j3 args).bind fun v => k v H
 | .append, [s, x] => tb (argTypes[0]?) fun t => tb (cM P t) fun el => tb (cQ P el) fun e => tb (gi P el) fun by' => tb (bZ P el) fun z =>
  if z.cells.size = e ∧ (argTypes[1]?).bind (fun u => cM P u) = some el then (eJ e by' s x H).bind fun r => k r.1 r.2 else none
 | .delete, [m, key] => tb (argTypes[0]?) fun t => tb (cN P t) fun kt => tb (cV P kt.1) fun fl => (ol fl m key H).bind fun H' => k (.tuple #[]) H'
 | _, _ => none
abbrev cOp (P : Program) (call : bM) (ev : Operand → Value) (o : Oper) (H : AH) (k : Value → AH → Option R) : Option R :=
 match o.op with
 | .move x => k (ev x) H
 | .assign x => k (ev x) H
 | .pick c a b => (aL (ev c) (ev a) (ev b)).bind fun v => k v H
 | .alloc t => tb (bZ P t) fun z => k (.pointer (some ⟨H.size, 0, none⟩)) (H.push (.cells false z.cells.toList))
 | .box _ x => k (.pointer (some ⟨H.size, 0, none⟩)) (H.push (.cells false (ev x).cells.toList))
 | .build t parts => match P.underlying t with
  | some (.struct fs) => tb (bZ P t) fun z => tb (jS P fs.toList) fun ps => (dq (ps[·]?) z.cells.toList (parts.toList.map fun p => (p.1, ev p.2))).bind fun cs => k (.agg cs.toArray) H
  | some (.array _ el) => tb (bZ P t) fun z => tb (cQ P el) fun e => (dq (fun i => some (i * e, e)) z.cells.toList (parts.toList.map fun p => (p.1, ev p.2))).bind fun cs => k (.agg cs.toArray) H
  | _ => none
 | .buildSlice t len parts => tb (cM P t) fun el => tb (cQ P el) fun e => tb (bZ P el) fun z =>
  if 0 < e ∧ z.cells.size = e ∧ len * e ≤ 2 ^ 24 then
   (dq (fun i => some (i * e, e)) (List.replicate len z.cells.toList).flatten (parts.toList.map fun p => (p.1, ev p.2))).bind fun cs => k (.slice (some ⟨H.size, 0, none⟩) len e) (H.push (.cells false cs))
  else none
 | .load t a => tb (f7 P t) fun g => match g with
  | some n => (ax n (ev a) H).bind fun v => k v H
  | none => (ar (ev a) H).bind fun v => k v H
 | .store t a x => tb (cQ P t) fun n => (cJ n (ev a) (ev x) H).bind fun H' => k undef H'
 | .nilCheck x => (vM (ev x)).bind fun v => k v H
 | .binOp op t x y _ => (ai (AW P t) op (ev x) (ev y)).bind fun v => k v H
 | .unOp op _ x => (ot op (ev x)).bind fun v => k v H
 | .convert src dst x => match P.underlying src with
  | some _ => (cf (sy P dst) (ev x)).bind fun v => k v H
  | none => none
 | .makeFunc fn first captured => k (.func fn (first.map ev) (captured.map ev)) H
 | .makeMap _ none => k (.map (some H.size)) (H.push (.map [] 0))
 | .makeSlice t l c => tb (cM P t) fun el => tb (cQ P el) fun e => tb (gi P el) fun by' => tb (bZ P el) fun z => (nl z.cells.toList e by' (ev l) (ev c) H).bind fun r => k r.1 r.2
 | .slice t x lo hi none => tb (cM P t) fun el => tb (cQ P el) fun e => (fV e (ev x) (lo.map ev) (hi.map ev)).bind fun v => k v H
 | .slice t x none (some hi) (some mx) => tb (cM P t) fun el => tb (cQ P el) fun _ => (jR (ev x) (ev hi) (ev mx)).bind fun v => k v H
 | .fieldAddr s x f => tb (kJ P s f) fun f => tb (cQ P f.type) fun n => if n = 0 then none else (HS f.offset (ev x)).bind fun v => k v H
 | .field s x f => tb (kJ P s f) fun f => tb (f7 P f.type) fun n => (lU n f.offset (ev x)).bind fun v => k v H
 | .indexAddr t x i => match P.underlying t with
  | some (.slice el) => tb (cQ P el) fun e => (pK e (ev x) (ev i)).bind fun v => k v H
  | some (.array len el) => tb (cQ P el) fun e => (jp len e (ev x) (ev i)).bind fun v => k v H
  | _ => none
 | .index t x i => match P.underlying t with
  | some (.array len el) => tb (cQ P el) fun e => tb (f7 P el) fun n => (jQ len n e (ev x) (ev i)).bind fun v => k v H
  | some .string => (jP (ev x) (ev i)).bind fun v => k v H
  | _ => none
 | .lookup t m key ok => tb (cN P t) fun kt => tb (cV P kt.1) fun fl => tb (bZ P kt.2) fun z => (cY fl z (ev m) (ev key) ok H).bind fun v => k v H
 | .mapUpdate t m key x => tb (cN P t) fun kt => tb (cV P kt.1) fun fl => (fj fl (ev m) (ev key) (ev x) H).bind fun H' => k undef H'
 | .extract t i => (ag (ev t) i).bind fun v => k v H
 | .call c => match c.callee with
  | .builtin b => Eb P b c.argTypes (c.args.toList.map ev) H k
  | .value f => (ce (ev f) (c.args.toList.map ev)).bind fun fa => (call fa.1 fa.2 H).bind fun r => k r.1 r.2
  | _ => none
 | _ => none
theorem gQ {α β γ : Type} (x : Option α) (b : β) (k : α → β → Option γ) : ((x.map (·, b)).bind fun r => k r.1 r.2) = x.bind fun v => k v b := by cases x <;> rfl
theorem z0 {β γ : Type} (x : Option β) (v : Value) (k : Value → β → Option γ) : ((x.map fun H' => (v, H')).bind fun r => k r.1 r.2) = x.bind fun H' => k v H' := by cases x <;> rfl
theorem J7 (P : Program) (b : Builtin) (ts : Array TypeId) (args : List Value) (H : AH) (k : Value → AH → Option R) : g6 P b ts args H k = (cU P b ts args H).bind fun r => k r.1 r.2 := by
 cases b with
 | len =>
  match args with
  | [] => rfl
  | [x] =>
   simp only [g6, cU]
   cases (ts[0]?).bind fun t => P.underlying t with
   | none => rfl
   | some d => cases d <;> first | rfl | (cases x <;> rfl) | (simp only [gQ])
  | x :: y :: zs => rfl
 | max => simp only [g6, cU, gQ]
 | min => simp only [g6, cU, gQ]
 | append =>
  match args with
  | [] => rfl
  | [x] => rfl
  | [s, x] =>
   simp only [g6, cU, Option.bind_assoc]
   congr 1; funext t; congr 1; funext el; congr 1; funext e; congr 1; funext b; congr 1; funext z
   split
   ·rfl
   ·rfl
  | x :: y :: z :: zs => rfl
 | delete =>
  match args with
  | [] => rfl
  | [x] => rfl
  | [s, x] => simp only [g6, cU, Option.bind_assoc, z0]
  | x :: y :: z :: zs => rfl
 | _ => rfl
theorem apV (P : Program) (call : bM) (ev : Operand → Value) (o : Oper) (H : AH) (k : Value → AH → Option R) : ru P call ev o H k = (fp P call ev o H).bind fun r => k r.1 r.2 := by
 obtain ⟨dst, op, type, pos, after, guard⟩ := o
 cases op with
 | call c =>
  obtain ⟨callee, args, ats⟩ := c
  cases callee with
  | value f => simp only [ru, fp, Option.bind_assoc]
  | invoke r m => rfl
  | builtin b => simp only [ru, fp]; exact J7 ..
 | makeMap t r => cases r <;> rfl
 | slice t x lo hi mx =>
  cases mx with
  | none => simp only [ru, fp, Option.bind_assoc, gQ]
  | some m => cases lo <;> cases hi <;> first | rfl | (simp only [ru, fp, Option.bind_assoc, gQ])
 | load t a =>
  simp only [ru, fp, Option.bind_assoc]
  congr 1
  funext g
  cases g <;> simp only [gQ]
 | build t parts =>
  simp only [ru, fp]
  cases P.underlying t with
  | none => rfl
  | some d => cases d <;> first | rfl | (simp only [Option.bind_assoc, Option.bind_map]; rfl)
 | buildSlice t len parts =>
  simp only [ru, fp, Option.bind_assoc]
  congr 1; funext el; congr 1; funext e; congr 1; funext z
  split
  ·rw [Option.bind_map]; rfl
  ·rfl
 | fieldAddr s x f =>
  simp only [ru, fp, Option.bind_assoc]
  congr 1; funext el; congr 1; funext e
  split
  ·rfl
  ·rw [gQ]
 | alloc t => simp only [ru, fp, Option.bind_map]; rfl
 | indexAddr t x i =>
  simp only [ru, fp]
  cases P.underlying t with
  | none => rfl
  | some d => cases d <;> first | rfl | (simp only [Option.bind_assoc, gQ])
 | index t x i =>
  simp only [ru, fp]
  cases P.underlying t with
  | none => rfl
  | some d => cases d <;> first | rfl | (simp only [Option.bind_assoc, gQ])
 | convert s d x =>
  simp only [ru, fp]
  cases P.underlying s with
  | none => rfl
  | some d => simp only [gQ]
 | store t x y => simp only [ru, fp, Option.bind_assoc, z0]
 | mapUpdate t m key x => simp only [ru, fp, Option.bind_assoc, z0]
 | _ => first | rfl | (simp only [ru, fp, Option.bind_assoc, gQ]; done)
theorem QS (P : Program) (b : Builtin) (ts : Array TypeId) (args : List Value) (H : AH) (k : Value → AH → Option R) : Eb P b ts args H k = g6 P b ts args H k := by
 unfold Eb g6;simp only [Qc]
theorem awV (P : Program) (call : bM) (ev : Operand → Value) (o : Oper) (H : AH) (k : Value → AH → Option R) : cOp P call ev o H k = ru P call ev o H k := by
 unfold cOp ru;simp only [Qc, QS]
theorem afZ (P : Program) (call : bM) (ev : Operand → Value) (o : Oper) (H : AH) (k : Value → AH → Option R) : cOp P call ev o H k = (fp P call ev o H).bind fun r => k r.1 r.2 := (awV ..).trans (apV ..)
def LS (op : Op) : Bool := lE op == 0 || lE op == 2
theorem ab3 {P : Program} {call : bM} {ev : Operand → Value} {o : Oper} {H : AH} (h : LS o.op = true) : fp P call ev o H = (cOp P call ev o H fun v _ => some v).map (·, H) := by
 rw [afZ]
 cases hx : fp P call ev o H with
 | none => rfl
 | some r =>
  obtain ⟨v, H'⟩ := r;simp only [bO, fA];unfold LS at h;simp only [Bool.or_eq_true, beq_iff_eq] at h
  rcases h with h | h
  ·rw [(wH h hx).1]
  ·rw [DN h] at hx
   obtain ⟨y, _, e⟩ := bh.1 hx;rw [(Prod.mk.inj e).2]
abbrev U8 (P : Program) (G : List Nat) (call : bM) (ops : Array Oper) (o : Oper) (A : List Value) (H : AH) (k : List Value → AH → Option R) : Option R :=
 match o.op.operands.toList.all (QA G) with
 | true => match o.guard with
  | none => cOp P call (f8 A) o H fun v H' => k (ma A o.dst v) H'
  | some g => match LS o.op with
   | true => (match dT ops A g.1 == some g.2 with
    | true => cOp P call (f8 A) o H fun v _ => some v
    | false => some undef).bind fun v => k (ma A o.dst v) H
   | false => (match dT ops A g.1 == some g.2 with
    | true => fp P call (f8 A) o H
    | false => some (undef, H)).bind fun r => k (ma A o.dst r.1) r.2
 | false => none
theorem NF (P : Program) (G : List Nat) (call : bM) (ops : Array Oper) (o : Oper) (A : List Value) (H : AH) (k : List Value → AH → Option R) : U8 P G call ops o A H k = (gM P G call ops o A H).bind fun s => k s.1 s.2 := by
 unfold U8 gM
 cases o.op.operands.toList.all (QA G) with
 | false => rfl
 | true =>
  simp only [if_true];unfold Region.wanted
  cases o.guard with
  | none =>
   simp only [if_true];rw [afZ, Option.bind_map]; rfl
  | some g =>
   obtain ⟨g, want⟩ := g;simp only
   cases hl : LS o.op with
   | true =>
    simp only
    by_cases h : (dT ops A g == some want) = true
    ·rw [if_pos h, h, ab3 hl]
     simp only
     cases (cOp P call (f8 A) o H fun v _ => some v) <;> rfl
    ·rw [if_neg h, Bool.eq_false_iff.2 h]; rfl
   | false =>
    simp only
    by_cases h : (dT ops A g == some want) = true
    ·rw [if_pos h, h, Option.bind_map]; rfl
    ·rw [if_neg h, Bool.eq_false_iff.2 h]; rfl
abbrev af0 (P : Program) (G : List Nat) (call : bM) (ops : Array Oper) : List Oper → List Value → AH → (List Value → AH → Option R) → Option R
 | [], A, H, k => k A H
 | o :: rest, A, H, k => U8 P G call ops o A H fun A' H' => af0 P G call ops rest A' H' k
theorem U7 (P : Program) (G : List Nat) (call : bM) (ops : Array Oper) : ∀ (l : List Oper) (A : List Value) (H : AH) (k : List Value → AH → Option R), af0 P G call ops l A H k = (dl P G call ops l A H).bind fun s => k s.1 s.2 := by
 intro l
 induction l with
 | nil => intro A H k; rfl
 | cons o l ih =>
  intro A H k;simp only [af0, dl];rw [NF, Option.bind_assoc]
  congr 1
  funext s
  exact ih _ _ _
noncomputable def bX {R : Type} (x y : Option Value) (k : Option R) : Option R := NG (x = y) k
theorem auM {R : Type} {x y : Option Value} (h : x = y) (k : Option R) : bX x y k = k := la h k
noncomputable abbrev Y4 {R : Type} (j : Nat) (hist : List ((AH → Option Value) × AH)) (rd : AH → Option Value) (H H' : AH) (k : Option R) : List (Nat × Nat) → Option R
 | [] => k
 | pq :: rest => match pq.1 == j with
  | true => match Nat.blt pq.2 j with
   | true => match hist[pq.2]? with
    | some h => bX (rd h.2) (rd H) (Y4 j hist rd H H' k rest)
    | none => none
   | false => Y4 j hist rd H H' k rest
  | false => match pq.2 == j with
   | true => match Nat.blt pq.1 j with
    | true => match hist[pq.1]? with
     | some h => bX (h.1 H') (h.1 h.2) (Y4 j hist rd H H' k rest)
     | none => none
    | false => Y4 j hist rd H H' k rest
   | false => Y4 j hist rd H H' k rest
theorem NH {α β : Type} (p : Prop) (x : Option α) (k : α → Option β) : (NG p x).bind k = NG p (x.bind k) := by unfold NG; split <;> rfl
theorem af6 {α β : Type} {j : Nat} {hist : List ((AH → Option Value) × AH)} {rd : AH → Option Value} {H H' : AH} (x : Option α) (k : α → Option β) : ∀ l, (Y4 j hist rd H H' x l).bind k = Y4 j hist rd H H' (x.bind k) l := by
 intro l
 induction l with
 | nil => rfl
 | cons p l ih =>
  simp only [Y4]
  cases p.1 == j with
  | true =>
   cases Nat.blt p.2 j with
   | true =>
    simp only
    cases hist[p.2]? with
    | none => rfl
    | some h => simp only [bX]; rw [NH, ih]
   | false => exact ih
  | false =>
   cases p.2 == j with
   | true =>
    cases Nat.blt p.1 j with
    | true =>
     simp only
     cases hist[p.1]? with
     | none => rfl
     | some h => simp only [bX]; rw [NH, ih]
    | false => exact ih
   | false => exact ih
def ckP (j : Nat) (hist : List ((AH → Option Value) × AH)) (rd : AH → Option Value) (H H' : AH) (p : Nat × Nat) : Prop :=
 (p.1 = j → p.2 < j → ∃ h, hist[p.2]? = some h ∧ rd h.2 = rd H) ∧ (p.2 = j → p.1 < j → ∃ h, hist[p.1]? = some h ∧ h.1 H' = h.1 h.2)
theorem Vb {α : Type} {p : Prop} {x : Option α} {r : α} : NG p x = some r ↔ p ∧ x = some r := ⟨oZ, fun h => by rw [la h.1]; exact h.2⟩
theorem Vd {α : Type} {j : Nat} {hist : List ((AH → Option Value) × AH)} {rd : AH → Option Value} {H H' : AH} {x : Option α} {r : α} : ∀ {l}, Y4 j hist rd H H' x l = some r ↔ (∀ p ∈ l, ckP j hist rd H H' p) ∧ x = some r := by
 intro l
 induction l with
 | nil => simp [Y4]
 | cons p l ih =>
  have split : (∀ q ∈ p :: l, ckP j hist rd H H' q) ↔ ckP j hist rd H H' p ∧ ∀ q ∈ l, ckP j hist rd H H' q := by simp
  rw [split, and_assoc, ← ih];simp only [Y4]
  by_cases h1 : p.1 = j
  ·have e1 : (p.1 == j) = true := by simpa using h1
   rw [e1];simp only
   by_cases h2 : p.2 < j
   ·have e2 : Nat.blt p.2 j = true := by simpa [Nat.blt_eq] using h2
    rw [e2];simp only
    have hn : ¬ p.2 = j := by omega
    unfold ckP
    cases hist[p.2]? with
    | none => simp [h1, h2]
    | some h => simp only [bX]; rw [Vb]; simp [h1, h2, hn]
   ·have e2 : Nat.blt p.2 j = false := by rw [Bool.eq_false_iff]; intro h; exact h2 (by simpa [Nat.blt_eq] using h)
    rw [e2];simp only;have : ckP j hist rd H H' p := ⟨fun _ h => absurd h h2, fun _ h => absurd h (by omega)⟩;simp [this]
  ·have e1 : (p.1 == j) = false := by simpa using h1
   rw [e1];simp only
   by_cases h2 : p.2 = j
   ·have e2 : (p.2 == j) = true := by simpa using h2
    rw [e2];simp only
    by_cases h3 : p.1 < j
    ·have e3 : Nat.blt p.1 j = true := by simpa [Nat.blt_eq] using h3
     rw [e3];simp only;unfold ckP
     cases hist[p.1]? with
     | none => simp [h1, h2, h3]
     | some h => simp only [bX]; rw [Vb]; simp [h1, h2, h3]
    ·have e3 : Nat.blt p.1 j = false := by rw [Bool.eq_false_iff]; intro h; exact h3 (by simpa [Nat.blt_eq] using h)
     rw [e3];simp only;have : ckP j hist rd H H' p := ⟨fun h => absurd h h1, fun _ h => absurd h h3⟩;simp [this]
   ·have e2 : (p.2 == j) = false := by simpa using h2
    rw [e2];simp only;have : ckP j hist rd H H' p := ⟨fun h => absurd h h1, fun h => absurd h h2⟩;simp [this]
abbrev MD (P : Program) (A : List Value) (o : Oper) : AH → Option Value := fun H => DO P (f8 A) o.op H
noncomputable def rG (P : Program) (G : List Nat) (call : bM) (ops : Array Oper) (pairs : List (Nat × Nat)) : List Oper → Nat → List ((AH → Option Value) × AH) → List Value → AH → Option (List Value × AH)
 | [], _, _, A, H => some (A, H)
 | o :: rest, j, hist, A, H => (gM P G call ops o A H).bind fun s => Y4 j hist (MD P A o) H s.2 (rG P G call ops pairs rest (j + 1) (hist ++ [(MD P A o, H)]) s.1 s.2) pairs
noncomputable abbrev U6 (P : Program) (G : List Nat) (call : bM) (ops : Array Oper) (pairs : List (Nat × Nat)) : List Oper → Nat → List ((AH → Option Value) × AH) → List Value → AH → (List Value → AH → Option R) → Option R
 | [], _, _, A, H, k => k A H
 | o :: rest, j, hist, A, H, k => U8 P G call ops o A H fun A' H' => Y4 j hist (MD P A o) H H' (U6 P G call ops pairs rest (j + 1) (hist ++ [(MD P A o, H)]) A' H' k) pairs
theorem af1 (P : Program) (G : List Nat) (call : bM) (ops : Array Oper) (pairs : List (Nat × Nat)) : ∀ (l : List Oper) (j : Nat) (hist : List ((AH → Option Value) × AH)) (A : List Value) (H : AH) (k : List Value → AH → Option R), U6 P G call ops pairs l j hist A H k = (rG P G call ops pairs l j hist A H).bind fun s => k s.1 s.2 := by
 intro l
 induction l with
 | nil => intro j hist A H k; rfl
 | cons o l ih =>
  intro j hist A H k;simp only [U6, rG];rw [NF, Option.bind_assoc]
  congr 1
  funext s
  rw [af6, ih]
theorem YP {P : Program} {G : List Nat} {call : bM} {ops : Array Oper} {pairs : List (Nat × Nat)} {A0 : List Value} {H0 : AH} {r0 : List Value × AH} (h0 : dl P G call ops ops.toList A0 H0 = some r0) (hp : ∀ p ∈ pairs, p.1 < ops.size ∧ p.2 < ops.size ∧ p.1 ≠ p.2) :
 ∀ (l : List Oper) (j : Nat) (hist : List ((AH → Option Value) × AH)), ops.toList.drop j = l → hist.length = j → (∀ i, i < j → ∃ o, ops[i]? = some o ∧ hist[i]? = some (MD P (j7 P G call ops A0 H0 i).1 o, (j7 P G call ops A0 H0 i).2)) →
  ∀ r, rG P G call ops pairs l j hist (j7 P G call ops A0 H0 j).1 (j7 P G call ops A0 H0 j).2 = some r ↔ (∀ p ∈ pairs, j ≤ max p.1 p.2 → km P (j7 P G call ops A0 H0) ops p) ∧ r = r0 := by
 intro l
 induction l with
 | nil =>
  intro j hist hl hlen hh r
  have hj : ops.size ≤ j := by
   have := congrArg List.length hl;simp at this; omega
  have hst : j7 P G call ops A0 H0 j = r0 := by
   unfold j7;rw [List.take_of_length_le (by simpa using hj), h0]; rfl
  simp only [rG, hst]
  constructor
  ·intro e
   exact ⟨fun p hpm hm => absurd (hp p hpm) (by omega), (iP e).symm⟩
  ·rintro ⟨_, rfl⟩; rfl
 | cons o l ih =>
  intro j hist hl hlen hh r
  have hj : ops.toList[j]? = some o := by
   have := congrArg (·[0]?) hl
   simpa using this
  have ho : ops[j]? = some o := by simpa using hj
  have hjs : j < ops.size := by
   have := (zZ.1 hj).1
   simpa using this
  have hstep := P3 h0 ho
  have hl' : ops.toList.drop (j + 1) = l := by
   have := congrArg (List.drop 1) hl
   simpa [List.drop_drop, Nat.add_comm] using this
  have hh' : ∀ i, i < j + 1 → ∃ o', ops[i]? = some o' ∧ (hist ++ [(MD P (j7 P G call ops A0 H0 j).1 o, (j7 P G call ops A0 H0 j).2)])[i]? = some (MD P (j7 P G call ops A0 H0 i).1 o', (j7 P G call ops A0 H0 i).2) := by
   intro i hi
   by_cases e : i = j
   ·subst e
    exact ⟨o, ho, by rw [List.getElem?_append_right (by omega)]; simp [hlen]⟩
   ·obtain ⟨o', h1, h2⟩ := hh i (by omega)
    exact ⟨o', h1, by rw [List.getElem?_append_left (by omega)]; exact h2⟩
  have hi := ih (j + 1) _ hl' (by simp [hlen]) hh' r;simp only [rG];rw [hstep];simp only [bO];rw [Vd, hi]
  have key : ∀ p ∈ pairs, max p.1 p.2 = j → (ckP j hist (MD P (j7 P G call ops A0 H0 j).1 o) (j7 P G call ops A0 H0 j).2 (j7 P G call ops A0 H0 (j + 1)).2 p ↔ km P (j7 P G call ops A0 H0) ops p) := by
   intro p hpm hm;obtain ⟨h1, h2, h3⟩ := hp p hpm;unfold ckP km
   by_cases hlt : p.2 < p.1
   ·have e1 : p.1 = j := by omega
    obtain ⟨o2, _, hg⟩ := hh p.2 (by omega);rw [if_pos hlt]
    constructor
    ·intro ⟨a, _⟩ o' ho'
     rw [e1, ho] at ho';cases ho';obtain ⟨h, hg', e⟩ := a e1 (by omega);rw [hg] at hg';cases hg';rw [e1];exact e
    ·intro a
     refine ⟨fun _ _ => ⟨_, hg, ?_⟩, fun e => absurd e (by omega)⟩;have := a o (by rw [e1]; exact ho);rw [e1] at this;exact this
   ·have e2 : p.2 = j := by omega
    obtain ⟨o1, ho1, hg⟩ := hh p.1 (by omega);rw [if_neg hlt, e2]
    constructor
    ·intro ⟨_, a⟩ o' ho'
     rw [ho1] at ho';cases ho';obtain ⟨h, hg', e⟩ := a rfl (by omega);rw [hg] at hg';cases hg';exact e
    ·intro a
     refine ⟨fun e => absurd e (by omega), fun _ _ => ⟨_, hg, a o1 ho1⟩⟩
  have out : ∀ p ∈ pairs, max p.1 p.2 ≠ j → ckP j hist (MD P (j7 P G call ops A0 H0 j).1 o) (j7 P G call ops A0 H0 j).2 (j7 P G call ops A0 H0 (j + 1)).2 p := by
   intro p hpm hm;exact ⟨fun h1 h2 => absurd hm (by omega), fun h1 h2 => absurd hm (by omega)⟩
  constructor
  ·rintro ⟨a, b, c⟩
   refine ⟨fun p hpm hm => ?_, c⟩
   by_cases e : max p.1 p.2 = j
   ·exact (key p hpm e).1 (a p hpm)
   ·exact b p hpm (by omega)
  ·rintro ⟨a, c⟩
   refine ⟨fun p hpm => ?_, fun p hpm hm => a p hpm (by omega), c⟩
   by_cases e : max p.1 p.2 = j
   ·exact (key p hpm e).2 (a p hpm (by omega))
   ·exact out p hpm e
theorem QI {P : Program} {G : List Nat} {call : bM} {ops : Array Oper} {pairs : List (Nat × Nat)} : ∀ (l : List Oper) (j : Nat) (hist : List ((AH → Option Value) × AH)) (A : List Value) (H : AH) (r : List Value × AH), rG P G call ops pairs l j hist A H = some r → dl P G call ops l A H = some r := by
 intro l
 induction l with
 | nil => intro j hist A H r h; exact h
 | cons o l ih =>
  intro j hist A H r h;simp only [rG] at h;obtain ⟨s, hs, h⟩ := aI.1 h;simp only [dl];rw [hs];exact ih _ _ _ _ _ (Vd.1 h).2
theorem LX {ops : Array Oper} : ∀ p ∈ d9 ops.toList, p.1 < ops.size ∧ p.2 < ops.size ∧ p.1 ≠ p.2 := by
 intro p hp;unfold d9 at hp;simp only [List.mem_flatMap, List.mem_filter, List.mem_map] at hp;obtain ⟨x, ⟨hx, hx2⟩, y, ⟨hy, hy2⟩, rfl⟩ := hp;have hx := List.mem_zipIdx hx;have hy := List.mem_zipIdx hy;simp only [beq_iff_eq] at hx2;simp only [Bool.and_eq_true, beq_iff_eq] at hy2;refine ⟨by have := hx.2.1; simpa using this, by have := hy.2.1; simpa using this, ?_⟩;intro e;simp only at e;have e3 := hy2.1.1;have ex := hx.2.2;have ey := hy.2.2;simp only [e, Nat.sub_zero] at ex ey
 have : x.1 = y.1 := by rw [ex, ey]
 rw [this, e3] at hx2;cases hx2
theorem QU {P : Program} {G : List Nat} {call : bM} {ops : Array Oper} {pairs : List (Nat × Nat)} (hp : ∀ p ∈ pairs, p.1 < ops.size ∧ p.2 < ops.size ∧ p.1 ≠ p.2) (A : List Value) (H : AH) :
 NG (∀ q ∈ pairs, km P (j7 P G call ops A H) ops q) (dl P G call ops ops.toList A H) = rG P G call ops pairs ops.toList 0 [] A H := by
 cases hx : dl P G call ops ops.toList A H with
 | none =>
  cases hy : rG P G call ops pairs ops.toList 0 [] A H with
  | none => unfold NG; split <;> rfl
  | some r => have := QI _ _ _ _ _ _ hy; rw [hx] at this; cases this
 | some r0 =>
  have hi := YP hx hp ops.toList 0 [] rfl rfl (fun i hi => absurd hi (by omega));simp only [an9] at hi
  cases hy : rG P G call ops pairs ops.toList 0 [] A H with
  | none =>
   cases hz : NG (∀ q ∈ pairs, km P (j7 P G call ops A H) ops q) (some r0) with
   | none => rfl
   | some r =>
    obtain ⟨h1, h2⟩ := oZ hz;have := (hi r0).2 ⟨fun p hpm _ => h1 p hpm, rfl⟩;rw [hy] at this; cases this
  | some r =>
   obtain ⟨h1, h2⟩ := (hi r).1 hy;rw [la (fun p hpm => h1 p hpm (by omega)), h2]
noncomputable abbrev J8 (P : Program) (G : List Nat) (call : bM) (ops : Array Oper) (draw : Bool) (A : List Value) (H : AH) (k : List Value → AH → Option R) : Option R :=
 match draw with
 | false => af0 P G call ops ops.toList A H k
 | true => match u2 ops.toList with
  | false => none
  | true => match d9 ops.toList with
   | [] => af0 P G call ops ops.toList A H k
   | p :: ps => U6 P G call ops (p :: ps) ops.toList 0 [] A H k
theorem QT (P : Program) (G : List Nat) (call : bM) (ops : Array Oper) (draw : Bool) (A : List Value) (H : AH) (k : List Value → AH → Option R) : J8 P G call ops draw A H k = (gz P G call ops draw A H).bind fun s => k s.1 s.2 := by
 unfold J8 gz nG
 cases draw with
 | false => exact U7 ..
 | true =>
  simp only
  cases u2 ops.toList with
  | false => rfl
  | true =>
   simp only
   cases hl : d9 ops.toList with
   | nil => exact U7 ..
   | cons p ps =>
    simp only;rw [QU (fun q hq => LX q (by rw [hl]; exact hq)), af1]
def ap0 (kn : List Value → AH → Option R) (kx : Nat → List Value → AH → Option R) (kr : List Value → AH → Option R) (r : AR) : Option R :=
 match r.1 with
 | .normal => kn r.2.1 r.2.2
 | .exit i => kx i r.2.1 r.2.2
 | .ret => kr r.2.1 r.2.2
noncomputable def jv (P : Program) (G : List Nat) (call : bM) (x : Code) (A : List Value) (H : AH) (kx : Nat → List Value → AH → Option R) (kr : List Value → AH → Option R) : Option R :=
 (qP (aX P G call x) A H).bind (ap0 (fun _ _ => none) kx kr)
noncomputable abbrev ba (P : Program) (G : List Nat) (call : bM) : Code → List Value → AH → (List Value → AH → Option R) → (Nat → List Value → AH → Option R) → (List Value → AH → Option R) → Option R
 | .skip, A, H, kn, _, _ => kn A H
 | .label _, A, H, kn, _, _ => kn A H
 | .region _ ops draw, A, H, kn, _, _ => J8 P G call ops draw A H kn
 | .seq x y, A, H, kn, kx, kr => ba P G call x A H (fun A H => ba P G call y A H kn kx kr) kx kr
 | .cond c x y, A, H, kn, kx, kr => match f8 A c with
  | .bool true => ba P G call x A H kn kx kr
  | .bool false => ba P G call y A H kn kx kr
  | _ => none
 | .block id x, A, H, kn, kx, kr => ba P G call x A H kn (fun i A H => if i = id then kn A H else kx i A H) kr
 | .loop x, A, H, _, kx, kr => jv P G call x A H kx kr
 | .exit id, A, H, _, kx, _ => kx id A H
 | .ret, A, H, _, _, kr => kr A H
 | _, _, _, _, _, _ => none
theorem YN {f : List Value → AH → Option AR} : ∀ {n : Nat} {A : List Value} {H : AH} {r : AR}, fG f n A H = some r → r.1 ≠ .normal := by
 intro n
 induction n with
 | zero => intro A H r h; cases h
 | succ n ih =>
  intro A H r h;simp only [fG] at h;obtain ⟨s, hs, h⟩ := aI.1 h
  split at h
  ·exact ih h
  ·rename_i e
   cases h;exact fun he => e he
theorem YO {f : List Value → AH → Option AR} {A : List Value} {H : AH} {r : AR} (h : qP f A H = some r) : r.1 ≠ .normal := by
 obtain ⟨n, hn⟩ := dk.1 h;exact YN hn
theorem wN (P : Program) (G : List Nat) (call : bM) : ∀ (c : Code) (A : List Value) (H : AH) (kn : List Value → AH → Option R) (kx : Nat → List Value → AH → Option R) (kr : List Value → AH → Option R),
 ba P G call c A H kn kx kr = (aX P G call c A H).bind (ap0 kn kx kr) := by
 intro c
 induction c with
 | skip => intros; rfl
 | label => intros; rfl
 | exit => intros; rfl
 | ret => intros; rfl
 | region id ops draw =>
  intro A H kn kx kr;simp only [ba, aX];rw [QT, Option.bind_map]; rfl
 | seq x y ihx ihy =>
  intro A H kn kx kr;simp only [ba, aX];rw [ihx, Option.bind_assoc]
  congr 1
  funext r
  obtain ⟨e, A1, H1⟩ := r
  cases e with
  | normal => simp only [ap0]; exact ihy ..
  | exit i => rfl
  | ret => rfl
 | cond c x y ihx ihy =>
  intro A H kn kx kr;simp only [ba, aX]
  generalize f8 A c = v
  cases v with
  | bool b => cases b <;> first | exact ihx .. | exact ihy ..
  | _ => rfl
 | block id x ih =>
  intro A H kn kx kr;simp only [ba, aX];rw [ih, Option.bind_map]
  congr 1
  funext r
  obtain ⟨e, A1, H1⟩ := r
  cases e with
  | normal => rfl
  | exit i =>
   simp only [ap0, Function.comp]
   split <;> rfl
  | ret => rfl
 | loop x ih =>
  intro A H kn kx kr;simp only [ba, aX, jv]
  cases h : qP (aX P G call x) A H with
  | none => rfl
  | some r =>
   simp only [bO];have := YO h;obtain ⟨e, A1, H1⟩ := r
   cases e with
   | normal => exact absurd rfl this
   | exit i => rfl
   | ret => rfl
 | rangeFunc => intros; rfl
 | scope => intros; rfl
 | goto => intros; rfl
 | refuse => intros; rfl
theorem afX (P : Program) (G : List Nat) (call : bM) (x : Code) (A : List Value) (H : AH) (kx : Nat → List Value → AH → Option R) (kr : List Value → AH → Option R) :
 jv P G call x A H kx kr = ba P G call x A H (fun A H => jv P G call x A H kx kr) kx kr := by
 rw [wN];unfold jv;rw [afH, Option.bind_assoc]
 congr 1
 funext r
 obtain ⟨e, A1, H1⟩ := r
 cases e <;> rfl
abbrev uH (P : Program) (A : List Value) (H : AH) : List ResultVar → (List Value → Option R) → Option R
 | [], k => k []
 | .tmp t :: rs, k => uH P A H rs fun vs => k (A[t]?.getD undef :: vs)
 | .cell a t :: rs, k => tb (f7 P t) fun g => match g with
  | some n => (ax n (A[a]?.getD undef) H).bind fun v => uH P A H rs fun vs => k (v :: vs)
  | none => (ar (A[a]?.getD undef) H).bind fun v => uH P A H rs fun vs => k (v :: vs)
theorem afY (P : Program) (A : List Value) (H : AH) : ∀ (rs : List ResultVar) (k : List Value → Option R), uH P A H rs k = (uC P A H rs).bind k := by
 intro rs
 induction rs with
 | nil => intro k; rfl
 | cons r rs ih =>
  intro k;simp only [uC, Option.bind_assoc, bO]
  cases r with
  | tmp t =>
   simp only [uH, md, bO];rw [ih]
  | cell a t =>
   simp only [uH, md, Option.bind_assoc, Qc]
   congr 1
   funext g
   cases g <;> (simp only; congr 1; funext v; rw [ih])
end
def tup : List Value → Value
 | [v] => v
 | vs => .tuple vs.toArray
abbrev dK (P : Program) (rs : List ResultVar) (A : List Value) (H : AH) : Option (Value × AH) := uH P A H rs fun vs => some (tup vs, H)
noncomputable def U4 (P : Program) (G : List Nat) (call : bM) (n : Nat) (rs : List ResultVar) (c : Code) (args : List Value) (H : AH) : Option (Value × AH) :=
 ba P G call c (args ++ List.replicate (n - args.length) undef) H (dK P rs) (fun _ _ _ => none) (dK P rs)
theorem U5 (P : Program) (rs : List ResultVar) (A : List Value) (H : AH) : dK P rs A H = (ju P A H rs).map (·, H) := by
 unfold dK ju;rw [afY, Option.map_map]
 cases uC P A H rs with
 | none => rfl
 | some vs =>
  simp only [bO, fA, Function.comp]
  congr 2
theorem afW (P : Program) (G : List Nat) (call : bM) (n : Nat) (rs : List ResultVar) (c : Code) (args : List Value) (H : AH) : U4 P G call n rs c args H = qO P G call n rs c args H := by
 unfold U4 qO;rw [wN]
 congr 1
 funext r
 obtain ⟨e, A1, H1⟩ := r
 cases e with
 | normal => exact U5 ..
 | exit i => rfl
 | ret => exact U5 ..
def bK (fn : Func) : Code := fn.body.getD .skip
theorem QH {P : Program} {G : List Nat} {f : Nat} {fn : Func} (hf : P.funcs[f]? = some fn) (hb : fn.body.isSome = true) (hn : (fn.name == "runtime.NumGoroutine") = false) (hd : lG (bK fn) = none) {args : List Value} {H : AH} {r : Value × AH}
 (h : U4 P G (aF P G) fn.ntmps fn.results.toList (bK fn) args H = some r) : aF P G f args H = some r := by
 cases hc : fn.body with
 | none => rw [hc] at hb; cases hb
 | some c =>
  rw [afW] at h;unfold bK at h hd;rw [hc] at h hd;exact awP hf hc (by simpa using hn) hd h
def Code.sub : Code → List Nat → Code
 | c, [] => c
 | .seq x _, 0 :: p => Code.sub x p
 | .seq _ y, 1 :: p => Code.sub y p
 | .cond _ x _, 2 :: p => Code.sub x p
 | .cond _ _ y, 3 :: p => Code.sub y p
 | .block _ x, 4 :: p => Code.sub x p
 | .loop x, 5 :: p => Code.sub x p
 | _, _ => .skip
def yv : Value → Option Bool
 | .bool b => some b
 | _ => none
def aQ {R : Type} (cs : List Value) (H : AH) (k : Value → AH → Option R) : Option R := k (.pointer (some ⟨H.size, 0, none⟩)) (H.push (.cells false cs))
def axB {R : Type} (len e : Nat) (cs : List Value) (H : AH) (k : Value → AH → Option R) : Option R := k (.slice (some ⟨H.size, 0, none⟩) len e) (H.push (.cells false cs))
def HO {R : Type} (H : AH) (k : Value → AH → Option R) : Option R := k (.map (some H.size)) (H.push (.map [] 0))
def fy {R : Type} (x : Value) (k : Value → Option R) : Option R :=
 match x with
 | .slice _ n _ => k (.int .i64 n)
 | _ => none
def arH (x : Value) : Option Value :=
 match x with
 | .slice _ _ _ => rA x
 | _ => none
def av {R : Type} (c : Value) (x y : Option R) : Option R :=
 match c with
 | .bool true => x
 | .bool false => y
 | _ => none
def Ab {α : Type} (y : Option Bool) (want : Bool) (a b : Option α) : Option α :=
 match y == some want with
 | true => a
 | false => b
theorem Ta (a b : Value) : aL (.bool true) a b = some a := rfl
theorem amH (a b : Value) : aL (.bool false) a b = some b := rfl
abbrev vi (n : Int) : Value := .int .i64 n
abbrev vw (n : Int) : Value := .int .u64 n
abbrev vu (n : Nat) : Value := .int .u64 (n : Int)
abbrev vb (b : Bool) : Value := .bool b
inductive Stp where
 | n
 | f (k : Nat)
 | i (e : Nat) (v : Value)
 | a (len e : Nat) (v : Value)
def ad {R : Type} : List Stp → Value → (Value → Option R) → Option R
 | [], a, k => k a
 | .n :: p, a, k => (vM a).bind fun a => ad p a k
 | .f o :: p, a, k => (HS o a).bind fun a => ad p a k
 | .i e v :: p, a, k => (pK e a v).bind fun a => ad p a k
 | .a len e v :: p, a, k => (jp len e a v).bind fun a => ad p a k
def ld {R : Type} (p : List Stp) (x : Value) (H : AH) (k : Value → Option R) : Option R := ad p x fun a => (ar a H).bind k
def ldN {R : Type} (n : Nat) (p : List Stp) (x : Value) (H : AH) (k : Value → Option R) : Option R := ad p x fun a => (ax n a H).bind k
def st {R : Type} (n : Nat) (p : List Stp) (x v : Value) (H : AH) (k : AH → Option R) : Option R := ad p x fun a => (cJ n a v H).bind k
def gB (c : Value) (want : Bool) (e : Option Value) : Option Value := Ab (yv c) want (e.bind some) (some undef)
def gV (c : Value) (want : Bool) (e : Value) : Option Value := Ab (yv c) want (some e) (some undef)
def gE (c : Value) (want : Bool) (H : AH) (e : Option (Value × AH)) : Option (Value × AH) := Ab (yv c) want e (some (undef, H))
def HK {R : Type} (c : Value) (want : Bool) : List Stp → Value → (Value → Option R) → Option R
 | [], a, k => k a
 | .n :: p, a, k => (gB c want (vM a)).bind fun a => HK c want p a k
 | .f o :: p, a, k => (gB c want (HS o a)).bind fun a => HK c want p a k
 | .i e v :: p, a, k => (gB c want (pK e a v)).bind fun a => HK c want p a k
 | .a len e v :: p, a, k => (gB c want (jp len e a v)).bind fun a => HK c want p a k
def f0 {R : Type} (c : Value) (want : Bool) (p : List Stp) (x : Value) (H : AH) (k : Value → Option R) : Option R := HK c want p x fun a => (gB c want (ar a H)).bind k
def pw {R : Type} (c : Value) (want : Bool) (n : Nat) (p : List Stp) (x : Value) (H : AH) (k : Value → Option R) : Option R := HK c want p x fun a => (gB c want (ax n a H)).bind k
def hJ {R : Type} (ps : List (Nat × Nat)) (zero : List Value) (xs : List (Nat × Value)) (k : Value → Option R) : Option R := (dq (fun i => ps[i]?) zero xs).bind fun cs => k (.agg cs.toArray)
def arQ (e : Nat) (i : Nat) : Option (Nat × Nat) := some (i * e, e)
def z5 {R : Type} (len e : Nat) (zero : List Value) (xs : List (Nat × Value)) (H : AH) (k : Value → AH → Option R) : Option R := (dq (arQ e) (List.replicate len zero).flatten xs).bind fun cs => axB len e cs H k
def ji (D : Nat) (A A' : List Value) : Prop := A.length = A'.length ∧ ∀ t, D.testBit t = false → A[t]? = A'[t]?
def kc (D : Nat) : Nat → List Value → List Value
 | _, [] => []
 | i, v :: vs => (match D.testBit i with | true => undef | false => v) :: kc D (i + 1) vs
def clear (D : Nat) (A : List Value) : List Value := kc D 0 A
theorem zn (D : Nat) : ∀ (A : List Value) (i : Nat), (kc D i A).length = A.length := by
 intro A
 induction A with
 | nil => intro i; rfl
 | cons v vs ih => intro i; simp [kc, ih]
theorem Hx (D : Nat) : ∀ (A : List Value) (i t : Nat), D.testBit (i + t) = false → (kc D i A)[t]? = A[t]? := by
 intro A
 induction A with
 | nil => intro i t _; rfl
 | cons v vs ih =>
  intro i t h
  cases t with
  | zero => simp only [Nat.add_zero] at h; simp [kc, h]
  | succ t => simp only [kc, List.getElem?_cons_succ]; exact ih (i + 1) t (by rw [show i + 1 + t = i + (t + 1) from by omega]; exact h)
theorem jl (D : Nat) (A : List Value) : ji D A (clear D A) := ⟨(zn D A 0).symm, fun t h => (Hx D A 0 t (by simpa using h)).symm⟩
def ap {R : Type} (D : Nat) (k : List Value → AH → Option R) : Prop := ∀ A A' H, ji D A A' → k A H = k A' H
def opr (D : Nat) : Operand → Bool
 | .tmp t => !D.testBit t
 | _ => true
def UD (D : Nat) : Option Tmp → Nat
 | some d => match D.testBit d with | true => D ^^^ 2 ^ d | false => D
 | none => D
theorem asG {D : Nat} {d : Option Tmp} {t : Nat} (h : D.testBit t = false) : (UD D d).testBit t = false := by
 unfold UD
 split
 ·split
  ·rename_i hd
   rw [Nat.testBit_xor, h, Nat.testBit_two_pow];simp;intro e;subst e; rw [h] at hd; cases hd
  ·exact h
 ·exact h
theorem asH {D : Nat} {d : Option Tmp} {t : Nat} (h : (UD D d).testBit t = false) (hd : d ≠ some t) : D.testBit t = false := by
 unfold UD at h
 split at h
 ·rename_i d
  split at h
  ·rename_i hb
   rw [Nat.testBit_xor, Nat.testBit_two_pow] at h;have : ¬ d = t := fun e => hd (by rw [e])
   simpa [this] using h
  ·exact h
 ·exact h
def vL (D : Nat) (ops : Array Oper) (o : Oper) : Bool :=
 o.op.operands.toList.all (opr D) && match o.guard with
 | none => true
 | some g => match (ops[g.1]?).bind (·.dst) with
  | some t => !D.testBit t
  | none => true
def pJ (ops : Array Oper) : List Oper → Nat → Option Nat
 | [], D => some D
 | o :: rest, D => match vL D ops o with
  | true => pJ ops rest (UD D o.dst)
  | false => none
def t5 : Code → Nat → Option Nat
 | .skip, D => some D
 | .label _, D => some D
 | .region _ ops _, D => pJ ops ops.toList D
 | .seq x y, D => match t5 x D with
  | some D1 => match t5 y D1 with
   | some D2 => some D2
   | none => none
  | none => none
 | .cond c x y, D => match opr D c with
  | true => match t5 x D, t5 y D with
   | some D1, some D2 => some (D1 ||| D2)
   | _, _ => none
  | false => none
 | .block _ x, D => match t5 x D with
  | some _ => some D
  | none => none
 | .loop x, D => match t5 x D with
  | some _ => some D
  | none => none
 | .exit _, _ => some 0
 | .ret, _ => some 0
 | _, _ => none
section
variable {P : Program} {G : List Nat} {call : bM} {R : Type}
theorem ji.mono {D D' : Nat} {A A' : List Value} (h : ji D A A') (hm : ∀ t, D'.testBit t = false → D.testBit t = false) : ji D' A A' := ⟨h.1, fun t ht => h.2 t (hm t ht)⟩
theorem ji.ev {D : Nat} {A A' : List Value} (h : ji D A A') {x : Operand} (hx : opr D x = true) : f8 A x = f8 A' x := by
 cases x with
 | tmp t => simp only [opr, Bool.not_eq_true'] at hx; simp only [f8]; rw [h.2 t hx]
 | _ => rfl
theorem ji.put {D : Nat} {A A' : List Value} (h : ji D A A') (d : Option Tmp) (v : Value) : ji (UD D d) (ma A d v) (ma A' d v) := by
 refine ⟨by rw [nH, nH, h.1], fun t ht => ?_⟩
 by_cases hd : d = some t
 ·subst hd; rw [CU, CU, h.1]
 ·rw [wI hd, wI hd]; exact h.2 t (asH ht hd)
theorem alY {ops : Array Oper} : ∀ {l : List Oper} {D D' : Nat}, pJ ops l D = some D' → ∀ t, D.testBit t = false → D'.testBit t = false := by
 intro l
 induction l with
 | nil => intro D D' h t ht; simp only [pJ] at h; cases h; exact ht
 | cons o l ih =>
  intro D D' h t ht;simp only [pJ] at h
  split at h
  ·exact ih h t (asG ht)
  ·cases h
theorem L8 : ∀ {c : Code} {D D' : Nat}, t5 c D = some D' → ∀ t, D.testBit t = false → D'.testBit t = false := by
 intro c
 induction c with
 | skip => intro D D' h t ht; simp only [t5] at h; cases h; exact ht
 | label l => intro D D' h t ht; simp only [t5] at h; cases h; exact ht
 | region id ops draw => intro D D' h; simp only [t5] at h; exact alY h
 | seq x y ihx ihy =>
  intro D D' h t ht;simp only [t5] at h
  split at h
  ·rename_i D1 h1
   split at h
   ·rename_i D2 h2; cases h; exact ihy h2 t (ihx h1 t ht)
   ·cases h
  ·cases h
 | cond c x y ihx ihy =>
  intro D D' h t ht;simp only [t5] at h
  split at h
  ·split at h
   ·rename_i D1 D2 h1 h2; cases h
    rw [Nat.testBit_or, ihx h1 t ht, ihy h2 t ht]; rfl
   ·cases h
  ·cases h
 | block id x ih => intro D D' h t ht; simp only [t5] at h; split at h <;> cases h; exact ht
 | loop x ih => intro D D' h t ht; simp only [t5] at h; split at h <;> cases h; exact ht
 | exit id => intro D D' h t ht; simp only [t5] at h; cases h; simp
 | ret => intro D D' h t ht; simp only [t5] at h; cases h; simp
 | rangeFunc => intro D D' h; simp [t5] at h
 | scope => intro D D' h; simp [t5] at h
 | goto => intro D D' h; simp [t5] at h
 | refuse => intro D D' h; simp [t5] at h
inductive Both (D : Nat) : Option (List Value × AH) → Option (List Value × AH) → Prop
 | no : Both D none none
 | yes {A A' : List Value} (H : AH) (h : ji D A A') : Both D (some (A, H)) (some (A', H))
theorem ad8 {ops : Array Oper} {o : Oper} {D : Nat} (ho : vL D ops o = true) {A A' : List Value} (h : ji D A A') (H : AH) : Both (UD D o.dst) (gM P G call ops o A H) (gM P G call ops o A' H) := by
 unfold vL at ho;simp only [Bool.and_eq_true] at ho;have hev : ∀ x ∈ o.op.operands.toList, f8 A x = f8 A' x := fun x hx => h.ev (List.all_eq_true.1 ho.1 x hx)
 have hw : Region.wanted o (dT ops A) = Region.wanted o (dT ops A') := by
  unfold Region.wanted
  cases hg : o.guard with
  | none => rfl
  | some g =>
   obtain ⟨g, want⟩ := g;rw [hg] at ho
   have hy : dT ops A g = dT ops A' g := by
    unfold dT
    cases hd : (ops[g]?).bind (·.dst) with
    | none => rfl
    | some t =>
     have h2 := ho.2;simp only [hd, Bool.not_eq_true'] at h2;simp only [bO];rw [h.2 t h2]
   simp only [hy]
 unfold gM;rw [hw, oY hev H]
 split
 ·split
  ·cases fp P call (f8 A') o H with
   | none => exact .no
   | some r => exact .yes r.2 (h.put o.dst r.1)
  ·exact .yes H (h.put o.dst undef)
 ·exact .no
theorem yf {ops : Array Oper} : ∀ {l : List Oper} {D D' : Nat}, pJ ops l D = some D' → ∀ {A A' : List Value}, ji D A A' → ∀ H, Both D' (dl P G call ops l A H) (dl P G call ops l A' H) := by
 intro l
 induction l with
 | nil => intro D D' h A A' hA H; simp only [pJ] at h; cases h; exact .yes H hA
 | cons o l ih =>
  intro D D' h A A' hA H;simp only [pJ] at h
  split at h
  ·rename_i ho
   simp only [dl];have := ad8 (P := P) (G := G) (call := call) ho hA H
   generalize gM P G call ops o A H = x at this
   generalize gM P G call ops o A' H = y at this
   cases this with
   | no => exact .no
   | yes H1 hA1 => exact ih h hA1 H1
  ·cases h
theorem SS {ops : Array Oper} : ∀ {l : List Oper} {D D' : Nat}, pJ ops l D = some D' → ∀ i, ∃ Di, pJ ops (l.take i) D = some Di ∧ ∀ o, l[i]? = some o → vL Di ops o = true := by
 intro l
 induction l with
 | nil => intro D D' h i; exact ⟨D, by cases i <;> rfl, fun o ho => by simp at ho⟩
 | cons o l ih =>
  intro D D' h i;simp only [pJ] at h
  split at h
  ·rename_i ho
   cases i with
   | zero => exact ⟨D, rfl, fun o' ho' => by simp at ho'; subst ho'; exact ho⟩
   | succ i =>
    obtain ⟨Di, h1, h2⟩ := ih h i;refine ⟨Di, ?_, fun o' ho' => h2 o' (by simpa using ho')⟩;simp only [List.take_succ_cons, pJ, ho];exact h1
  ·cases h
theorem Y6 {ops : Array Oper} {D D' : Nat} (h : pJ ops ops.toList D = some D') {A A' : List Value} (hA : ji D A A') (H : AH) : Both D' (nG P G call ops A H) (nG P G call ops A' H) := by
 unfold nG
 split
 ·exact .no
 ·split
  ·exact yf h hA H
  ·rename_i p ps hp
   have hb := yf (P := P) (G := G) (call := call) h hA H
   have key : dl P G call ops ops.toList A H ≠ none → ((∀ q ∈ p :: ps, km P (j7 P G call ops A H) ops q) ↔ ∀ q ∈ p :: ps, km P (j7 P G call ops A' H) ops q) := by
    intro hne
    have hst : ∀ i, ∃ Di, ji Di (j7 P G call ops A H i).1 (j7 P G call ops A' H i).1 ∧ (j7 P G call ops A H i).2 = (j7 P G call ops A' H i).2 ∧ ∀ o, ops[i]? = some o → vL Di ops o = true := by
     intro i;obtain ⟨Di, h1, h2⟩ := SS h i;have hbi := yf (P := P) (G := G) (call := call) h1 hA H
     cases hx : dl P G call ops ops.toList A H with
     | none => exact absurd hx hne
     | some r =>
      have h3 := y9 hx i;rw [h3] at hbi;unfold j7 at hbi ⊢;rw [h3] at hbi ⊢
      generalize dl P G call ops (ops.toList.take i) A' H = y at hbi
      simp only [Option.getD_some] at hbi ⊢
      generalize hz : j7 P G call ops A H i = z at hbi
      unfold j7 at hz;rw [h3] at hz;simp only [Option.getD_some] at hz
      cases hbi with
      | yes H1 hA1 =>
       exact ⟨Di, hA1, rfl, fun o ho => h2 o (by simpa using ho)⟩
    have one : ∀ q, km P (j7 P G call ops A H) ops q ↔ km P (j7 P G call ops A' H) ops q := by
     intro q;unfold km;obtain ⟨D1, a1, e1, o1⟩ := hst q.1;obtain ⟨D2, a2, e2, o2⟩ := hst (if q.2 < q.1 then q.2 else q.2 + 1)
     constructor
     ·intro hl o ho
      have hev : ∀ x ∈ o.op.operands.toList, f8 (j7 P G call ops A H q.1).1 x = f8 (j7 P G call ops A' H q.1).1 x := fun x hx => a1.ev (by
       have := o1 o ho;unfold vL at this;simp only [Bool.and_eq_true] at this
       exact List.all_eq_true.1 this.1 x hx)
      have := hl o ho;rw [tx hev, tx hev, e1, e2] at this;exact this
     ·intro hl o ho
      have hev : ∀ x ∈ o.op.operands.toList, f8 (j7 P G call ops A H q.1).1 x = f8 (j7 P G call ops A' H q.1).1 x := fun x hx => a1.ev (by
       have := o1 o ho;unfold vL at this;simp only [Bool.and_eq_true] at this
       exact List.all_eq_true.1 this.1 x hx)
      rw [tx hev, tx hev, e1, e2];exact hl o ho
    exact ⟨fun hl q hq => (one q).1 (hl q hq), fun hl q hq => (one q).2 (hl q hq)⟩
   have hn : dl P G call ops ops.toList A H = none → dl P G call ops ops.toList A' H = none := by
    intro e; rw [e] at hb; generalize dl P G call ops ops.toList A' H = y at hb; cases hb; rfl
   by_cases hne : dl P G call ops ops.toList A H = none
   ·rw [hne, hn hne]
    unfold NG
    have : ∀ (c : Prop) [Decidable c], (if c then (none : Option (List Value × AH)) else none) = none := fun c _ => by split <;> rfl
    rw [this, this]; exact .no
   ·unfold NG
    by_cases hc : ∀ q ∈ p :: ps, km P (j7 P G call ops A H) ops q
    ·rw [if_pos hc, if_pos ((key hne).1 hc)]; exact hb
    ·rw [if_neg hc, if_neg (fun h => hc ((key hne).2 h))]; exact .no
inductive BothR (D D' : Nat) : Option AR → Option AR → Prop
 | no : BothR D D' none none
 | normal {A A' : List Value} (H : AH) (h : ji D' A A') : BothR D D' (some (.normal, A, H)) (some (.normal, A', H))
 | exit (i : Nat) {A A' : List Value} (H : AH) (h : ji D A A') : BothR D D' (some (.exit i, A, H)) (some (.exit i, A', H))
 | ret {A A' : List Value} (H : AH) (h : ji D A A') : BothR D D' (some (.ret, A, H)) (some (.ret, A', H))
theorem Iq : ∀ {c : Code} {D D' : Nat}, t5 c D = some D' → ∀ {A A' : List Value}, ji D A A' → ∀ H, BothR D D' (aX P G call c A H) (aX P G call c A' H) := by
 intro c
 induction c with
 | skip => intro D D' h A A' hA H; simp only [t5] at h; cases h; exact .normal H hA
 | label l => intro D D' h A A' hA H; simp only [t5] at h; cases h; exact .normal H hA
 | exit id => intro D D' h A A' hA H; exact .exit id H hA
 | ret => intro D D' h A A' hA H; exact .ret H hA
 | region id ops draw =>
  intro D D' h A A' hA H;simp only [t5] at h;simp only [aX]
  have hb : Both D' (gz P G call ops draw A H) (gz P G call ops draw A' H) := by
   cases draw with
   | true => exact Y6 h hA H
   | false => exact yf h hA H
  generalize gz P G call ops draw A H = x at hb
  generalize gz P G call ops draw A' H = y at hb
  cases hb with
  | no => exact .no
  | yes H1 hA1 => exact .normal H1 hA1
 | seq x y ihx ihy =>
  intro D D' h A A' hA H;simp only [t5] at h
  split at h
  ·rename_i D1 h1
   split at h
   ·rename_i D2 h2
    cases h;simp only [aX];have hb := ihx h1 hA H
    generalize aX P G call x A H = u at hb
    generalize aX P G call x A' H = v at hb
    cases hb with
    | no => exact .no
    | normal H1 hA1 =>
     have hb2 := ihy h2 hA1 H1;simp only [bO]
     rename_i A1 A1'
     generalize aX P G call y A1 H1 = u at hb2
     generalize aX P G call y A1' H1 = v at hb2
     cases hb2 with
     | no => exact .no
     | normal H2 hA2 => exact .normal H2 hA2
     | exit i H2 hA2 => exact .exit i H2 (hA2.mono (fun t ht => L8 h1 t ht))
     | ret H2 hA2 => exact .ret H2 (hA2.mono (fun t ht => L8 h1 t ht))
    | exit i H1 hA1 => exact .exit i H1 hA1
    | ret H1 hA1 => exact .ret H1 hA1
   ·cases h
  ·cases h
 | cond c x y ihx ihy =>
  intro D D' h A A' hA H;simp only [t5] at h
  split at h
  ·rename_i hc
   split at h
   ·rename_i D1 D2 h1 h2
    cases h;simp only [aX];rw [hA.ev hc]
    have m1 : ∀ t, (D1 ||| D2).testBit t = false → D1.testBit t = false := fun t ht => by rw [Nat.testBit_or, Bool.or_eq_false_iff] at ht; exact ht.1
    have m2 : ∀ t, (D1 ||| D2).testBit t = false → D2.testBit t = false := fun t ht => by rw [Nat.testBit_or, Bool.or_eq_false_iff] at ht; exact ht.2
    generalize f8 A' c = v
    cases v with
    | bool b =>
     cases b with
     | true =>
      have hb := ihx h1 hA H;simp only
      generalize aX P G call x A H = u at hb
      generalize aX P G call x A' H = v at hb
      cases hb with
      | no => exact .no
      | normal H1 hA1 => exact .normal H1 (hA1.mono m1)
      | exit i H1 hA1 => exact .exit i H1 hA1
      | ret H1 hA1 => exact .ret H1 hA1
     | false =>
      have hb := ihy h2 hA H;simp only
      generalize aX P G call y A H = u at hb
      generalize aX P G call y A' H = v at hb
      cases hb with
      | no => exact .no
      | normal H1 hA1 => exact .normal H1 (hA1.mono m2)
      | exit i H1 hA1 => exact .exit i H1 hA1
      | ret H1 hA1 => exact .ret H1 hA1
    | _ => exact .no
   ·cases h
  ·cases h
 | block id x ih =>
  intro D D' h A A' hA H;simp only [t5] at h
  split at h <;> cases h
  rename_i D1 h1
  simp only [aX];have hb := ih h1 hA H
  generalize aX P G call x A H = u at hb
  generalize aX P G call x A' H = v at hb
  cases hb with
  | no => exact .no
  | normal H1 hA1 => exact .normal H1 (hA1.mono (fun t ht => L8 h1 t ht))
  | exit i H1 hA1 =>
   simp only [fA]
   split
   ·exact .normal H1 hA1
   ·exact .exit i H1 hA1
  | ret H1 hA1 => exact .ret H1 hA1
 | loop x ih =>
  intro D D' h A A' hA H;simp only [t5] at h
  split at h <;> cases h
  rename_i D1 h1
  simp only [aX]
  have it : ∀ n {A A' : List Value} (H : AH), ji D A A' → BothR D D (fG (aX P G call x) n A H) (fG (aX P G call x) n A' H) := by
   intro n
   induction n with
   | zero => intro A A' H _; exact .no
   | succ n ihn =>
    intro A A' H hA;simp only [fG];have hb := ih h1 hA H
    generalize aX P G call x A H = u at hb
    generalize aX P G call x A' H = v at hb
    cases hb with
    | no => exact .no
    | normal H1 hA1 => exact ihn H1 (hA1.mono (fun t ht => L8 h1 t ht))
    | exit i H1 hA1 => exact .exit i H1 hA1
    | ret H1 hA1 => exact .ret H1 hA1
  cases hl : qP (aX P G call x) A H with
  | some r =>
   obtain ⟨n, hn⟩ := dk.1 hl;have hb := it n H hA;rw [hn] at hb
   cases hm : fG (aX P G call x) n A' H with
   | none => rw [hm] at hb; cases hb
   | some r' =>
    rw [dk.2 ⟨n, hm⟩];rw [hm] at hb;exact hb
  | none =>
   cases hl' : qP (aX P G call x) A' H with
   | none => exact .no
   | some r' =>
    obtain ⟨n, hn⟩ := dk.1 hl';have hb := it n H hA;rw [hn] at hb
    cases hm : fG (aX P G call x) n A H with
    | none => rw [hm] at hb; cases hb
    | some r => rw [dk.2 ⟨n, hm⟩] at hl; cases hl
 | rangeFunc => intro D D' h; simp [t5] at h
 | scope => intro D D' h; simp [t5] at h
 | goto => intro D D' h; simp [t5] at h
 | refuse => intro D D' h; simp [t5] at h
def Ic (D D' : Nat) : Bool := D ||| D' == D'
theorem Yr {D D' : Nat} (h : Ic D D' = true) : ∀ t, D'.testBit t = false → D.testBit t = false := by
 intro t ht;unfold Ic at h
 have e : D ||| D' = D' := by simpa using h
 rw [← e, Nat.testBit_or, Bool.or_eq_false_iff] at ht;exact ht.1
theorem ap.le {D D' : Nat} {k : List Value → AH → Option R} (h : ap D' k) (hs : Ic D D' = true) : ap D k := fun A A' H hA => h A A' H (hA.mono (Yr hs))
def Aa (c : Code) (D D' : Nat) : Bool := match t5 c D with
 | some D1 => Ic D1 D'
 | none => false
theorem ac7 {c : Code} {D D' : Nat} {kn : List Value → AH → Option R} {kx : Nat → List Value → AH → Option R} {kr : List Value → AH → Option R} (h : Aa c D D' = true) (hn : ap D' kn) (hx : ∀ i, ap D (kx i)) (hr : ap D kr) :
 ap D (fun A H => ba P G call c A H kn kx kr) := by
 intro A A' H hA;unfold Aa at h
 split at h
 ·rename_i D1 h1
  simp only;rw [wN, wN];have hb := Iq (P := P) (G := G) (call := call) h1 hA H
  generalize aX P G call c A H = u at hb
  generalize aX P G call c A' H = v at hb
  cases hb with
  | no => rfl
  | normal H1 hA1 => exact hn _ _ H1 (hA1.mono (Yr h))
  | exit i H1 hA1 => exact hx i _ _ H1 hA1
  | ret H1 hA1 => exact hr _ _ H1 hA1
 ·cases h
theorem ac8 {c : Code} {D : Nat} {kx : Nat → List Value → AH → Option R} {kr : List Value → AH → Option R} (h : Aa c D D = true) (hx : ∀ i, ap D (kx i)) (hr : ap D kr) :
 ap D (fun A H => jv P G call c A H kx kr) := by
 intro A A' H hA;unfold Aa at h
 split at h
 ·rename_i D1 h1
  have hb := Iq (P := P) (G := G) (call := call) (c := .loop c) (D := D) (D' := D) (by simp only [t5, h1]) hA H;simp only [aX] at hb;simp only [jv]
  generalize qP (aX P G call c) A H = u at hb
  generalize qP (aX P G call c) A' H = v at hb
  cases hb with
  | no => rfl
  | normal H1 hA1 => rfl
  | exit i H1 hA1 => exact hx i _ _ H1 hA1
  | ret H1 hA1 => exact hr _ _ H1 hA1
 ·cases h
def Xv (D : Nat) (rs : List ResultVar) : Bool := rs.all fun r => match r with
 | .tmp t => !D.testBit t
 | .cell a _ => !D.testBit a
theorem ac9 {D : Nat} : ∀ {rs : List ResultVar} (_ : Xv D rs = true) (k : List Value → AH → Option R), ap D (fun A H => uH P A H rs fun vs => k vs H) := by
 intro rs
 induction rs with
 | nil => intro _ k A A' H hA; rfl
 | cons r rs ih =>
  intro h k A A' H hA;unfold Xv at h;simp only [List.all_cons, Bool.and_eq_true] at h
  cases r with
  | tmp t =>
   simp only [Bool.not_eq_true'] at h;simp only [uH];rw [hA.2 t h.1];exact ih h.2 (fun vs H => k ((A'[t]?.getD undef) :: vs) H) A A' H hA
  | cell a t =>
   simp only [Bool.not_eq_true'] at h;simp only [uH];rw [hA.2 a h.1, Qc, Qc]
   congr 1
   funext g
   cases g <;> (simp only; congr 1; funext v; exact ih h.2 (fun vs H => k (v :: vs) H) A A' H hA)
theorem anB {D : Nat} {rs : List ResultVar} (h : Xv D rs = true) : ap D (dK P rs) := ac9 h fun vs H => some (tup vs, H)
theorem adA {D : Nat} : ap D (fun (_ : List Value) (_ : AH) => (none : Option R)) := fun _ _ _ _ => rfl
theorem TI {D id : Nat} {kn : List Value → AH → Option R} {kx : Nat → List Value → AH → Option R} (hn : ap D kn) (hx : ∀ i, ap D (kx i)) : ∀ i, ap D (fun A H => if i = id then kn A H else kx i A H) := by
 intro i A A' H hA;simp only
 split
 ·exact hn _ _ _ hA
 ·exact hx i _ _ _ hA
theorem GQ {D : Nat} {n : List Value → AH → Option R} (h : ap D n) : ap D (fun A H => n (clear D A) H) := by
 intro A A' H hA;simp only;rw [← h A (clear D A) H (jl D A), ← h A' (clear D A') H (jl D A')];exact h A A' H hA
variable {A : List Value} {H : AH} {kn : List Value → AH → Option R} {kx : Nat → List Value → AH → Option R} {kr : List Value → AH → Option R}
theorem apY {c x y : Code} {e : Operand} (h : c = .cond e x y) : ba P G call c A H kn kx kr = av (f8 A e) (ba P G call x A H kn kx kr) (ba P G call y A H kn kx kr) := by subst h; rfl
theorem NB {c x : Code} {id : Nat} (h : c = .block id x) {D : Nat} {n : Nat → List Value → AH → Option R} (hn : n = fun i A H => if i = id then kn A H else kx i A H) (hD : ∀ i, ap D (n i)) :
 ba P G call c A H kn kx kr = ba P G call x A H kn (fun i A H => n i (clear D A) H) kr := by
 subst h
 have e : (fun i A H => n i (clear D A) H) = n := by
  funext i A H
  exact (hD i A (clear D A) H (jl D A)).symm
 rw [e, hn]; try rfl
theorem arI {c x : Code} (h : c = .loop x) : ba P G call c A H kn kx kr = jv P G call x A H kx kr := by subst h; rfl
theorem SL {x : Code} {D : Nat} {n : List Value → AH → Option R} (hn : n = fun A H => jv P G call x A H kx kr) (hD : ap D n) : jv P G call x A H kx kr = n (clear D A) H := by
 have := hD A (clear D A) H (jl D A);rw [← this, hn]
theorem SK {x : Code} {D : Nat} {n : List Value → AH → Option R} (hn : n = fun A H => jv P G call x A H kx kr) (hD : ap D n) :
 jv P G call x A H kx kr = ba P G call x A H (fun A H => n (clear D A) H) kx kr := by
 have e : (fun A H => n (clear D A) H) = n := by
  funext A H
  exact (hD A (clear D A) H (jl D A)).symm
 rw [e, hn]; exact afX ..
def Code.pre : Nat → Code → Code
 | 0, .seq x _ => x
 | k + 1, .seq x y => .seq x (Code.pre k y)
 | _, c => c
def Code.post : Nat → Code → Code
 | 0, .seq _ y => y
 | k + 1, .seq _ y => Code.post k y
 | _, _ => .skip
theorem avE : ∀ (k : Nat) (c : Code) (A : List Value) (H : AH), ba P G call c A H kn kx kr = ba P G call (Code.pre k c) A H (fun A H => ba P G call (Code.post k c) A H kn kx kr) kx kr := by
 intro k
 induction k with
 | zero => intro c A H; cases c <;> rfl
 | succ k ih =>
  intro c A H
  cases c with
  | seq x y =>
   have e : (fun A H => ba P G call y A H kn kx kr) = fun A H => ba P G call (Code.pre k y) A H (fun A H => ba P G call (Code.post k y) A H kn kx kr) kx kr := by
    funext A H; exact ih y A H
   show ba P G call x A H (fun A H => ba P G call y A H kn kx kr) kx kr = _;rw [e]; rfl
  | _ => rfl
variable {l T : Option R}
theorem avF {c : Code} {k D : Nat} {n : List Value → AH → Option R} (h0 : l = ba P G call c A H kn kx kr) (hn : n = fun A H => ba P G call (Code.post k c) A H kn kx kr) (hD : ap D n)
 (h1 : ba P G call (Code.pre k c) A H (fun A H => n (clear D A) H) kx kr = T) : l = T := by
 have e : (fun A H => n (clear D A) H) = n := by
  funext A H
  exact (hD A (clear D A) H (jl D A)).symm
 rw [e, hn] at h1;exact h0.trans ((avE k c A H).trans h1)
theorem af7 {v v' : Value} {x x' y y' : Option R} (h : v = v') (hx : x = x') (hy : y = y') : av v x y = av v' x' y' := by rw [h, hx, hy]
theorem apZ {c x y : Code} {e : Operand} (h0 : l = ba P G call c A H kn kx kr) (h : c = .cond e x y) (h1 : av (f8 A e) (ba P G call x A H kn kx kr) (ba P G call y A H kn kx kr) = T) : l = T := h0.trans ((apY h).trans h1)
theorem afU {c x : Code} {id D : Nat} {n : Nat → List Value → AH → Option R} (h0 : l = ba P G call c A H kn kx kr) (h : c = .block id x) (hn : n = fun i A H => if i = id then kn A H else kx i A H) (hD : ∀ i, ap D (n i))
 (h1 : ba P G call x A H kn (fun i A H => n i (clear D A) H) kr = T) : l = T := h0.trans ((NB h hn hD).trans h1)
theorem arJ {c x : Code} {D : Nat} {n : List Value → AH → Option R} (h0 : l = ba P G call c A H kn kx kr) (h : c = .loop x) (hn : n = fun A H => jv P G call x A H kx kr) (hD : ap D n) (h1 : n (clear D A) H = T) : l = T :=
 h0.trans ((arI h).trans ((SL hn hD).trans h1))
theorem arK {x : Code} {D : Nat} {n : List Value → AH → Option R} (h0 : l = jv P G call x A H kx kr) (hn : n = fun A H => jv P G call x A H kx kr) (hD : ap D n)
 (h1 : ba P G call x A H (fun A H => n (clear D A) H) kx kr = T) : l = T := h0.trans ((SK hn hD).trans h1)
end
abbrev OV := Option (Value × AH)
abbrev u : Value := undef
abbrev KK := List Value → AH → OV
abbrev KX := Nat → List Value → AH → OV
noncomputable abbrev CK (P : Program) (G : List Nat) (call : bM) (c : Code) (kn : KK) (kx : KX) (kr : KK) : KK := fun A H => ba P G call c A H kn kx kr
noncomputable abbrev CL (P : Program) (G : List Nat) (call : bM) (c : Code) (kx : KX) (kr : KK) : KK := fun A H => jv P G call c A H kx kr
abbrev BX (id : Nat) (kn : KK) (kx : KX) : KX := fun i A H => if i = id then kn A H else kx i A H
abbrev dD (D : Nat) (n : KK) : KK := fun A H => n (clear D A) H
abbrev nJ (D : Nat) (n : KX) : KX := fun i A H => n i (clear D A) H
def bv : KX := fun _ _ _ => none
def awZ : Nat := 2 ^ 4096 - 1
def ls (l : List Value) (n : Nat) : List Value := l ++ List.replicate n u
section
variable {P : Program} {G : List Nat} {call : bM} {A : List Value} {H : AH} {kn : KK} {kx : KX} {kr : KK} {l T : OV}
theorem aw : ∀ i, ap awZ (bv i) := fun _ => adA
theorem rf {rs : List ResultVar} {D : Nat} (h : Xv D rs = true := by kernel_rfl) : ap D (dK P rs) := anB h
theorem rc {c : Code} {D Dn Dx Dr : Nat} (hn : ap Dn kn) (hx : ∀ i, ap Dx (kx i)) (hr : ap Dr kr) (h : (Aa c D Dn && (Ic D Dx && Ic D Dr)) = true := by kernel_rfl) : ap D (CK P G call c kn kx kr) := by
 simp only [Bool.and_eq_true] at h;exact ac7 h.1 hn (fun i => (hx i).le h.2.1) (hr.le h.2.2)
theorem rl {c : Code} {D Dx Dr : Nat} (hx : ∀ i, ap Dx (kx i)) (hr : ap Dr kr) (h : (Aa c D D && (Ic D Dx && Ic D Dr)) = true := by kernel_rfl) : ap D (CL P G call c kx kr) := by
 simp only [Bool.and_eq_true] at h;exact ac8 h.1 (fun i => (hx i).le h.2.1) (hr.le h.2.2)
theorem rb {D id Dn Dx : Nat} (hn : ap Dn kn) (hx : ∀ i, ap Dx (kx i)) (h : (Ic D Dn && Ic D Dx) = true := by kernel_rfl) : ∀ i, ap D (BX id kn kx i) := by
 simp only [Bool.and_eq_true] at h;exact TI (hn.le h.1) (fun i => (hx i).le h.2)
theorem cd {D : Nat} {n : KK} (h : ap D n) : ap D (dD D n) := GQ h
theorem cx {D : Nat} {n : KX} (h : ∀ i, ap D (n i)) : ∀ i, ap D (nJ D n i) := fun i => GQ (h i)
theorem pt {c : Code} {D : Nat} {n : KK} (h0 : l = ba P G call c A H kn kx kr) (k : Nat) (hD : ap D n) (h1 : ba P G call (Code.pre k c) A H (dD D n) kx kr = T)
 (hn : n = fun A H => ba P G call (Code.post k c) A H kn kx kr := by kernel_rfl) : l = T := avF h0 hn hD h1
theorem ct {c : Code} (h0 : l = ba P G call c A H kn kx kr) (x y : Code) (e : Operand) {v : Value} {X Y : OV} (hx : ba P G call x A H kn kx kr = X) (hy : ba P G call y A H kn kx kr = Y)
 (h : c = .cond e x y := by kernel_rfl) (he : f8 A e = v := by kernel_rfl) : l = av v X Y := apZ h0 h (af7 he hx hy)
theorem bt {c : Code} {D : Nat} {n : KX} (h0 : l = ba P G call c A H kn kx kr) (x : Code) (id : Nat) (hD : ∀ i, ap D (n i)) (h1 : ba P G call x A H kn (nJ D n) kr = T)
 (h : c = .block id x := by kernel_rfl) (hn : n = fun i A H => if i = id then kn A H else kx i A H := by kernel_rfl) : l = T := afU h0 h hn hD h1
theorem li {c : Code} {D : Nat} {n : KK} (h0 : l = ba P G call c A H kn kx kr) (x : Code) (hD : ap D n) (h1 : n (clear D A) H = T) (h : c = .loop x := by kernel_rfl)
 (hn : n = fun A H => jv P G call x A H kx kr := by kernel_rfl) : l = T := arJ h0 h hn hD h1
theorem uW {x : Code} {D : Nat} {n : KK} (h0 : l = jv P G call x A H kx kr) (hD : ap D n) (h1 : ba P G call x A H (dD D n) kx kr = T)
 (hn : n = fun A H => jv P G call x A H kx kr := by kernel_rfl) : l = T := arK h0 hn hD h1
theorem ht' {id : Nat} (h0 : l = BX id kn kx id A H) (h1 : kn A H = T) : l = T := by rw [h0, ← h1]; simp [BX]
theorem fo {f : Nat} {fn : Func} (hf : P.funcs[f]? = some fn) {args : List Value} {t : OV} {r : Value × AH} (e : U4 P G (aF P G) fn.ntmps fn.results.toList (bK fn) args H = t) (h : t = some r)
 (hb : fn.body.isSome = true := by kernel_rfl) (hn : (fn.name == "runtime.NumGoroutine") = false := by kernel_rfl) (hd : lG (bK fn) = none := by kernel_rfl) : aF P G f args H = some r := QH hf hb hn hd (e.trans h)
end
end Go.Proofs.YtflbeghglllknaaGreatDoor.Gst
namespace Go.Proofs.YtflbeghglllknaaGreatDoor.Gst
open Go Go.RowKit Go.ChangeShapes
set_option linter.unusedSimpArgs false
def gg (H H' : AH) : Prop := H.size ≤ H'.size ∧ ∀ b, b < H.size → H'.get b = H.get b
theorem gg.refl (H : AH) : gg H H := ⟨bA _, fun _ _ => rfl⟩
theorem gg.trans {A B C : AH} (h : gg A B) (k : gg B C) : gg A C := ⟨eE h.1 k.1, fun b hb => by rw [k.2 b (by have := h.1; omega), h.2 b hb]⟩
theorem gg.push (H : AH) (o : AObj) : gg H (H.push o) := ⟨by rw [AH.size_push]; omega, fun b hb => AH.get_push_old hb⟩
theorem gg.get {H H' : AH} (h : gg H H') {b : Nat} {o : AObj} (hb : H.get b = some o) : H'.get b = some o := by rw [h.2 b (AH.lt_of_get hb)]; exact hb
inductive Ty where
 | int (k : IntKind)
 | bool
 | slice (t : Ty)
 | unit
 | pair (a b : Ty)
def Ty.w : Ty → Nat
 | .int _ | .bool | .slice _ => 1
 | .unit => 0
 | .pair a b => a.w + b.w
abbrev Ty.I : Ty → Type
 | .int _ => Int
 | .bool => Bool
 | .slice t => List t.I
 | .unit => Unit
 | .pair a b => a.I × b.I
inductive lF {α : Type} (R : α → List Value → Prop) : List α → List Value → Prop
 | nil : lF R [] []
 | cons {x : α} {l : List α} {c cs : List Value} (h : R x c) (k : lF R l cs) : lF R (x :: l) (c ++ cs)
def Abs (H : AH) : (t : Ty) → t.I → List Value → Prop
 | .int k, n, cs => cs = [.int k n] ∧ (Lit.int k n).wf = true
 | .bool, b, cs => cs = [.bool b]
 | .unit, _, cs => cs = []
 | .pair a b, x, cs => ∃ c1 c2, cs = c1 ++ c2 ∧ Abs H a x.1 c1 ∧ Abs H b x.2 c2
 | .slice t, l, cs => (l = [] ∧ cs = [.slice none 0 0]) ∨ (l = [] ∧ ∃ b, cs = [.slice (some ⟨b, 0, none⟩) 0 0]) ∨
  ∃ b row, H.get b = some (.cells true row) ∧ cs = [.slice (some ⟨b, 0, none⟩) l.length t.w] ∧ lF (Abs H t) l row ∧ l.length ≤ maxLen
theorem lF.mono {α : Type} {R S : α → List Value → Prop} (h : ∀ x c, R x c → S x c) {l : List α} {cs : List Value} (k : lF R l cs) : lF S l cs := by
 induction k with
 | nil => exact .nil
 | cons h1 _ ih => exact .cons (h _ _ h1) ih
theorem Abs.keep {H H' : AH} (k : gg H H') : ∀ (t : Ty) (x : t.I) (cs : List Value), Abs H t x cs → Abs H' t x cs := by
 intro t
 induction t with
 | int k => intro x cs h; exact h
 | bool => intro x cs h; exact h
 | unit => intro x cs h; exact h
 | pair a b iha ihb =>
  intro x cs h;obtain ⟨c1, c2, e, h1, h2⟩ := h;exact ⟨c1, c2, e, iha _ _ h1, ihb _ _ h2⟩
 | slice t ih =>
  intro x cs h
  rcases h with h | h | ⟨b, row, h1, h2, h3, h4⟩
  ·exact .inl h
  ·exact .inr (.inl h)
  ·exact .inr (.inr ⟨b, row, k.get h1, h2, h3.mono ih, h4⟩)
theorem lF.length {α : Type} {R : α → List Value → Prop} {n : Nat} (h : ∀ x c, R x c → c.length = n) {l : List α} {cs : List Value} (k : lF R l cs) : cs.length = l.length * n := by
 induction k with
 | nil => simp
 | cons h1 _ ih => rw [f2, h _ _ h1, ih, List.length_cons, Nat.add_mul]; omega
theorem Abs.length {H : AH} : ∀ (t : Ty) (x : t.I) (cs : List Value), Abs H t x cs → cs.length = t.w := by
 intro t
 induction t with
 | int k => intro x cs h; rw [h.1]; rfl
 | bool => intro x cs h; have h : cs = _ := h; rw [h]; rfl
 | unit => intro x cs h; have h : cs = _ := h; rw [h]; rfl
 | pair a b iha ihb =>
  intro x cs h;obtain ⟨c1, c2, e, h1, h2⟩ := h;rw [e, f2, iha _ _ h1, ihb _ _ h2]; rfl
 | slice t ih =>
  intro x cs h
  rcases h with h | ⟨_, b, h⟩ | ⟨b, row, h1, h2, h3, h4⟩
  ·rw [h.2]; rfl
  ·rw [h]; rfl
  ·rw [h2]; rfl
def DI : (t : Ty) → t.I → Prop
 | .int _, _ => True
 | .bool, _ => True
 | .unit, _ => True
 | .pair a b, x => DI a x.1 ∧ DI b x.2
 | .slice t, l => l.length ≤ reachBytes ∧ ∀ x ∈ l, DI t x
def wOK {Hd : Type} (P : Program) (t : TypeId) (d : DataW Hd) : Prop := ∀ n ∈ DataW.weights P t d, n ≤ reachBytes
theorem tq {Hd : Type} {P : Program} {e : TypeId} {d : DataW Hd} {n : Nat} : ∀ {l : List (DataW Hd)}, d ∈ l → n ∈ DataW.weights P e d → n ∈ DataW.weightsAll P e l := by
 intro l
 induction l with
 | nil => intro h; cases h
 | cons x l ih =>
  intro h hn;rw [DataW.weightsAll, List.mem_append]
  rcases ul.1 h with rfl | h
  ·exact .inl hn
  ·exact .inr (ih h hn)
theorem CS {Hd : Type} {P : Program} {n : Nat} : ∀ {ts : List TypeId} {ds : List (DataW Hd)} {i : Nat} {t : TypeId} {d : DataW Hd}, ts[i]? = some t → ds[i]? = some d → n ∈ DataW.weights P t d → n ∈ DataW.weightsEach P ts ds := by
 intro ts
 induction ts with
 | nil => intro ds i t d h; simp at h
 | cons t0 ts ih =>
  intro ds i t d h1 h2 hn
  cases ds with
  | nil => simp at h2
  | cons d0 ds =>
   rw [DataW.weightsEach, List.mem_append]
   cases i with
   | zero =>
    simp at h1 h2;subst h1; subst h2;exact .inl hn
   | succ i => exact .inr (ih (by simpa using h1) (by simpa using h2) hn)
def rx (P : Program) : Ty → (TypeId → Bool) × (List Field → Nat → Bool)
 | .int k => (fun t => match P.underlying t with | some (.int k') => k' == k && P.cellsOf t == 1 | _ => false, fun _ _ => false)
 | .bool => (fun t => match P.underlying t with | some .bool => P.cellsOf t == 1 | _ => false, fun _ _ => false)
 | .slice ty => (fun t => match P.underlying t with | some (.slice e) => (rx P ty).1 e && P.cellsOf e == ty.w && decide (0 < ty.w ∧ 0 < P.bytesOf e) && P.cellsOf t == 1 | _ => false, fun _ _ => false)
 | .unit => (fun _ => false, fun fs _ => fs.isEmpty)
 | .pair a b =>
  let F : List Field → Nat → Bool := fun fs off => match fs with
   | f :: fs => f.offset == off && (rx P a).1 f.type && P.cellsOf f.type == a.w && (rx P b).2 fs (off + a.w)
   | [] => false
  (fun t => match P.underlying t with | some (.struct fs) => P.cellsOf t == a.w + b.w && F fs.toList 0 | _ => false, F)
section
variable {Hd : Type} {enc : TypeId × Value → Hd} {P : Program} {w : World} {held : Bool}
theorem Rel.pushRo {B : Nat} {w0 : World} {ρ : bT} {H : AH} (h : Rel P w0 B ρ H w) {row : List Value} {c d sz : Nat} (hc : c < w.heap.size) (hcB : c < B) (hor : rE P ρ d sz (.cells true row) w.heap[c]?) :
 Rel P w0 B (ρ.upd H.size (c, d, sz)) (H.push (.cells true row)) w := by
 have hnone : ρ H.size = none := by
  cases hn : ρ H.size with
  | none => rfl
  | some x => have := h.dom _ _ hn; omega
 have hle := bT.upd_le (x := (c, d, sz)) hnone
 have key : ∀ b1 o1, (H.push (.cells true row)).get b1 = some o1 → (b1 = H.size ∧ o1 = .cells true row) ∨ (b1 < H.size ∧ H.get b1 = some o1) := by
  intro b1 o1 h1;rw [AH.get_push] at h1
  by_cases hb1 : b1 = H.size
  ·rw [if_pos hb1] at h1; exact .inl ⟨hb1, (iP h1).symm⟩
  ·rw [if_neg hb1] at h1; exact .inr ⟨AH.lt_of_get h1, h1⟩
 have old : ∀ {b1 c1 d1 sz1}, b1 < H.size → ρ.upd H.size (c, d, sz) b1 = some (c1, d1, sz1) → ρ b1 = some (c1, d1, sz1) := by
  intro b1 c1 d1 sz1 hb1 hx
  rwa [bT.upd_ne (by omega)] at hx
 have new : ∀ {c1 d1 sz1}, ρ.upd H.size (c, d, sz) H.size = some (c1, d1, sz1) → c1 = c ∧ d1 = d ∧ sz1 = sz := by
  intro c1 d1 sz1 hx;rw [bT.upd_same] at hx;cases hx;exact ⟨rfl, rfl, rfl⟩
 refine ⟨h.base, h.below, ?_, ?_, ?_, ?_, ?_, ?_⟩
 ·intro b1 x hx
  rw [AH.size_push]
  by_cases hb1 : b1 = H.size
  ·omega
  ·rw [bT.upd_ne hb1] at hx; have := h.dom b1 x hx; omega
 ·intro b1 c1 d1 sz1 hx
  by_cases hb1 : b1 = H.size
  ·subst hb1
   obtain ⟨rfl, _, _⟩ := new hx;exact hc
  ·rw [bT.upd_ne hb1] at hx; exact h.blk b1 c1 d1 sz1 hx
 ·intro b1 c1 d1 sz1 o1 hx h1
  rcases key b1 o1 h1 with ⟨rfl, rfl⟩ | ⟨hb1, h1⟩
  ·obtain ⟨rfl, rfl, rfl⟩ := new hx
   exact hor.mono hle
  ·exact (h.obj b1 c1 d1 sz1 o1 (old hb1 hx) h1).mono hle
 ·intro b1 c1 d1 sz1 o1 hx h1 hrw
  rcases key b1 o1 h1 with ⟨rfl, rfl⟩ | ⟨hb1, h1⟩
  ·cases hrw
  ·exact h.own b1 c1 d1 sz1 o1 (old hb1 hx) h1 hrw
 ·intro b1 c1 d1 sz1 cs1 hx h1
  rcases key b1 _ h1 with ⟨rfl, _⟩ | ⟨hb1, h1⟩
  ·obtain ⟨rfl, _, _⟩ := new hx
   exact hcB
  ·exact h.ro b1 c1 d1 sz1 cs1 (old hb1 hx) h1
 ·intro b1 b2 c1 d1 d2 sz1 sz2 o1 o2 hx1 hx2 h1 h2 hr1 hr2
  rcases key b1 o1 h1 with ⟨rfl, rfl⟩ | ⟨hb1, h1⟩
  ·cases hr1
  ·rcases key b2 o2 h2 with ⟨rfl, rfl⟩ | ⟨hb2, h2⟩
   ·cases hr2
   ·exact h.inj b1 b2 c1 d1 d2 sz1 sz2 o1 o2 (old hb1 hx1) (old hb2 hx2) h1 h2 hr1 hr2
theorem PG {B : Nat} {w0 : World} {ρ : bT} {H : AH} (h : Rel P w0 B ρ H w) (x : Nat × Nat × Nat) : ∀ b y, ρ b = some y → ρ.upd H.size x b = some y :=
 bT.upd_le (by
  cases hn : ρ H.size with
  | none => rfl
  | some x => have := h.dom _ _ hn; omega)
def Got (P : Program) (w : World) (ρ : bT) (H : AH) (ty : Ty) (cs : List Value) (ρ' : bT) (H' : AH) : Prop :=
 ∃ x avs, Rel P w w.heap.size ρ' H' w ∧ (∀ b y, ρ b = some y → ρ' b = some y) ∧ gg H H' ∧ LRel P ρ' avs cs ∧ Abs H' ty x avs ∧ DI ty x
theorem AL {fuel : Nat} {t : TypeId} {cs : List Value} {x : DataW Hd × List MemPlace} (h : DataW.trod enc P w 0 (fun _ => true) held fuel t cs = some x) : ∃ n, fuel = n + 1 := by
 cases fuel with
 | zero => simp [DataW.trod] at h
 | succ n => exact ⟨n, rfl⟩
theorem XZ {ty : Ty} {e : TypeId} {n : Nat} (ih : ∀ (cs : List Value) (x : DataW Hd × List MemPlace) (ρ : bT) (H : AH), Rel P w w.heap.size ρ H w → DataW.trod enc P w 0 (fun _ => true) held n e cs = some x → wOK P e x.1 → ∃ ρ' H', Got P w ρ H ty cs ρ' H')
 (a : Addr) : ∀ (m i : Nat) (ρ : bT) (H : AH), Rel P w w.heap.size ρ H w → (∀ j, i ≤ j → j < i + m → ∃ y, (w.cells? 0 (a.add (j * ty.w)) ty.w).bind (DataW.trod enc P w 0 (fun _ => true) held n e) = some y ∧ wOK P e y.1) →
  ∃ ρ' H' l row cc, Rel P w w.heap.size ρ' H' w ∧ (∀ b y, ρ b = some y → ρ' b = some y) ∧ gg H H' ∧ l.length = m ∧ lF (Abs H' ty) l row ∧ LRel P ρ' row cc ∧ (∀ k, k < m * ty.w → w.cell? (a.add (i * ty.w + k)) = cc[k]?) ∧ cc.length = m * ty.w ∧ ∀ x ∈ l, DI ty x := by
 intro m
 induction m with
 | zero =>
  intro i ρ H hR _;exact ⟨ρ, H, [], [], [], hR, fun _ _ h => h, gg.refl H, rfl, .nil, LRel.nil, fun k hk => by omega, by simp, fun x hx => by cases hx⟩
 | succ m ihm =>
  intro i ρ H hR hel;obtain ⟨y, hy, hwy⟩ := hel i (bA _) (by omega);obtain ⟨cs, hcs, hy⟩ := aI.1 hy;obtain ⟨ρ1, H1, x, avs, hR1, hle1, hk1, hl1, ha1, hs1⟩ := ih cs y ρ H hR hy hwy;obtain ⟨ρ2, H2, l, row, cc, hR2, hle2, hk2, hlen, hrow, hl2, hcell, hcl, hs2⟩ := ihm (i + 1) ρ1 H1 hR1 (fun j h1 h2 => hel j (by omega) (by omega));obtain ⟨_, hcsl, hcsg⟩ := World.cells?_some hcs;refine ⟨ρ2, H2, x :: l, avs ++ row, cs ++ cc, hR2, fun b y h => hle2 b y (hle1 b y h), hk1.trans hk2, by simp [hlen], .cons (Abs.keep hk2 ty x avs ha1) hrow, (hl1.mono hle2).append hl2, ?_, ?_, ?_⟩
  ·intro k hk
   have hmul : (m + 1) * ty.w = ty.w + m * ty.w := by rw [Nat.add_mul]; omega
   have hmul2 : (i + 1) * ty.w = i * ty.w + ty.w := by rw [Nat.add_mul]; omega
   by_cases hkw : k < ty.w
   ·rw [List.getElem?_append_left (by omega), ← hcsg k hkw]
    congr 1
    unfold Addr.add
    repeat' split
    all_goals first | rfl | omega | (simp; done) | (simp; omega)
   ·rw [List.getElem?_append_right (by omega), hcsl, ← hcell (k - ty.w) (by omega), hmul2]
    congr 2
    omega
  ·rw [f2, hcsl, hcl, Nat.add_mul]; omega
  ·intro z hz
   rcases ul.1 hz with rfl | hz
   ·exact hs1
   ·exact hs2 z hz
theorem aoM : ∀ (ty : Ty),
 (∀ (t : TypeId), (rx P ty).1 t = true → ∀ (fuel : Nat) (cs : List Value) (x : DataW Hd × List MemPlace) (ρ : bT) (H : AH), Rel P w w.heap.size ρ H w → DataW.trod enc P w 0 (fun _ => true) held fuel t cs = some x → wOK P t x.1 → ∃ ρ' H', Got P w ρ H ty cs ρ' H') ∧
 (∀ (fs : List Field) (off : Nat), (rx P ty).2 fs off = true → ∀ (fuel : Nat) (cs : List Value) (ρ : bT) (H : AH), Rel P w w.heap.size ρ H w → cs.length = off + ty.w →
  (∀ f ∈ fs, ∃ y, DataW.trod enc P w 0 (fun _ => true) held fuel f.type ((cs.drop f.offset).take (P.cellsOf f.type)) = some y ∧ wOK P f.type y.1) → ∃ ρ' H', Got P w ρ H ty (cs.drop off) ρ' H') := by
 intro ty
 induction ty with
 | int k =>
  refine ⟨?_, fun fs off h => by cases h⟩;intro t ht fuel cs x ρ H hR h hwx;obtain ⟨n, rfl⟩ := AL h;simp only [rx] at ht
  split at ht
  ·rename_i k' hu
   simp only [Bool.and_eq_true, beq_iff_eq] at ht;obtain ⟨rfl, _⟩ := ht;obtain ⟨n, rfl, _, hw⟩ := DataW.trod_int hu h;exact ⟨ρ, H, n, [.int k' n], hR, fun _ _ h => h, gg.refl H, LRel.of_all rfl, ⟨rfl, hw⟩, trivial⟩
  ·cases ht
 | bool =>
  refine ⟨?_, fun fs off h => by cases h⟩;intro t ht fuel cs x ρ H hR h hwx;obtain ⟨n, rfl⟩ := AL h;simp only [rx] at ht
  split at ht
  ·rename_i hu
   obtain ⟨b, rfl, _⟩ := DataW.trod_bool hu h;exact ⟨ρ, H, b, [.bool b], hR, fun _ _ h => h, gg.refl H, LRel.of_all rfl, rfl, trivial⟩
  ·cases ht
 | unit =>
  refine ⟨fun t h => by (cases h), ?_⟩;intro fs off hfs fuel cs ρ H hR hl h;refine ⟨ρ, H, (), [], hR, fun _ _ h => h, gg.refl H, ?_, rfl, trivial⟩;have : cs.drop off = [] := List.drop_eq_nil_of_le (by simp [Ty.w] at hl; omega);rw [this]; exact LRel.nil
 | slice ty ih =>
  refine ⟨?_, fun fs off h => by cases h⟩;intro t ht fuel cs x ρ H hR h hwx;simp only [rx] at ht
  split at ht
  ·rename_i e hu
   simp only [Bool.and_eq_true, beq_iff_eq, decide_eq_true_eq] at ht;obtain ⟨⟨⟨ht, he⟩, hw, hby⟩, _⟩ := ht
   rcases DataW.trod_slice hu h with ⟨rfl, _⟩ | ⟨a, len, cap, elems, rest, n, rfl, rfl, hx, _, hlc, hcm, hlen, hel, hsp, _⟩
   ·exact ⟨ρ, H, [], [.slice none 0 0], hR, fun _ _ h => h, gg.refl H, LRel.of_all rfl, .inl ⟨rfl, rfl⟩, Nat.zero_le _, fun x hx => by cases hx⟩
   ·have hwt : DataW.weights P t x.1 = (elems.length + rest.length) * P.bytesOf e :: (DataW.weightsAll P e (elems.map (·.1)) ++ DataW.weightsAll P e (rest.map (·.1))) := by
     rw [hx];unfold DataW.weights;rw [hu];simp
    have hreach : len ≤ reachBytes := by
     have h1 := hwx _ (by rw [hwt]; exact List.mem_cons_self)
     have h2 : len + rest.length ≤ (elems.length + rest.length) * P.bytesOf e := by
      rw [hlen]
      exact Nat.le_mul_of_pos_right _ hby
     omega
    have hwe : ∀ (y : DataW Hd × List MemPlace), (y ∈ elems ∨ y ∈ rest) → wOK P e y.1 := by
     intro y hy n hn;refine hwx n ?_;rw [hwt, ul, List.mem_append]
     rcases hy with hy | hy
     ·exact .inr (.inl (tq (List.mem_map.2 ⟨y, hy, rfl⟩) hn))
     ·exact .inr (.inr (tq (List.mem_map.2 ⟨y, hy, rfl⟩) hn))
    rw [he] at hel hsp
    by_cases hc0 : cap = 0
    ·subst hc0
     obtain rfl : len = 0 := by omega
     exact ⟨ρ, H, [], [.slice (some ⟨0, 0, none⟩) 0 0], hR, fun _ _ h => h, gg.refl H, LRel.cons .empty LRel.nil, .inr (.inl ⟨rfl, 0, rfl⟩), Nat.zero_le _, fun x hx => by cases hx⟩
    ·have all : ∀ j, 0 ≤ j → j < 0 + cap → ∃ y, (w.cells? 0 (a.add (j * ty.w)) ty.w).bind (DataW.trod enc P w 0 (fun _ => true) held n e) = some y ∧ wOK P e y.1 := by
      intro j _ hj
      by_cases hjl : j < len
      ·rw [hel j hjl]
       exact ⟨elems[j]'(by omega), cG (by omega), hwe _ (.inl (OX _))⟩
      ·obtain ⟨hr1, hr2⟩ := hsp rfl
       have := hr2 (j - len) (by omega);rw [show len + (j - len) = j from by omega] at this;rw [this];exact ⟨rest[j - len]'(by omega), cG (by omega), hwe _ (.inr (OX _))⟩
     -- all cells of its dc are there
     obtain ⟨_, _, _, _, cca, _, _, _, _, _, _, hca, hcal, _⟩ := XZ (fun cs x ρ H => ih.1 e ht n cs x ρ H) a cap 0 ρ H hR all;obtain ⟨ρ1, H1, l, row, cc, hR1, hle1, hk1, hll, hrow, hl1, hcell, hcl, hsm⟩ := XZ (fun cs x ρ H => ih.1 e ht n cs x ρ H) a len 0 ρ H hR (fun j h1 h2 => all j h1 (by omega));have hpos : 0 < cap * ty.w := Nat.mul_pos (by omega) hw;have h0 := hca 0 hpos;have hsome : ∃ v, cca[0]? = some v := ⟨cca[0]'(by omega), cG (by omega)⟩;obtain ⟨v0, hv0⟩ := hsome;rw [hv0] at h0
     have hadd0 : a.add (0 * ty.w + 0) = a := by simp [Addr.add]
     rw [hadd0] at h0;unfold World.cell? at h0
     split at h0
     ·rename_i c el fz hblk
      split at h0
      ·cases h0
      ·rename_i hspot
       obtain ⟨ab, ao, as'⟩ := a
       have : as' = none := by cases as' with | none => rfl | some _ => simp at hspot
       subst this
       have cellsAt : ∀ k, k < cap * ty.w → c[ao + k]? = cca[k]? := by
        intro k hk;have := hca k hk;rw [show 0 * ty.w + k = k from by omega, Addr.add_lit] at this;unfold World.cell? at this;simp only [hblk, Option.isSome_none] at this
        simpa using this
       have hfit : ao + cap * ty.w ≤ c.size := by
        have := cellsAt (cap * ty.w - 1) (by omega);rw [cG (by omega)] at this;have := (Array.getElem?_eq_some_iff.1 this).1;omega
       have hsub : len * ty.w ≤ cap * ty.w := Nat.mul_le_mul_right _ hlc
       have hrl : row.length = len * ty.w := by rw [hl1.1, hcl]
       have hccs : (c.toList.drop ao).take row.length = cc := by
        apply List.ext_getElem?;intro k;rw [hrl, List.getElem?_take]
        by_cases hk : k < len * ty.w
        ·rw [if_pos hk, List.getElem?_drop]
         have h1 := hcell k hk;rw [show 0 * ty.w + k = k from by omega, Addr.add_lit] at h1;unfold World.cell? at h1;simp only [hblk, Option.isSome_none] at h1;rw [← h1];simp
        ·rw [if_neg hk, List.getElem?_eq_none (by omega)]
       have hblk' : w.heap[ab]? = some (.cells c el fz) := hblk;have hab : ab < w.heap.size := (Array.getElem?_eq_some_iff.1 hblk').1;have hp := hR1.pushRo (row := row) (c := ab) (d := ao) (sz := c.size) hab hab ⟨c, el, fz, hblk', rfl, by omega, (fun h => by cases h), by rw [hccs]; exact hl1⟩;have hkp := gg.push H1 (.cells true row);refine ⟨_, _, l, [.slice (some ⟨H1.size, 0, none⟩) l.length ty.w], hp, fun b y h => PG hR1 _ b y (hle1 b y h), hk1.trans hkp, LRel.cons ?_ LRel.nil, .inr (.inr ⟨H1.size, row, AH.get_push_new _ _, rfl, hrow.mono (Abs.keep hkp ty), by omega⟩), by rw [hll]; exact hreach, hsm⟩;rw [hll];have := VRel.slice (P := P) (ρ := ρ1.upd H1.size (ab, ao, c.size)) (b := H1.size) (o := 0) (n := len) (e := ty.w) (c := ab) (d := ao) (sz := c.size) (k := cap) (bT.upd_same ..) (by omega) hlc hw
       simpa using this
     ·cases h0
  ·cases ht
 | pair a b iha ihb =>
  have fields : ∀ (fs : List Field) (off : Nat), (rx P (.pair a b)).2 fs off = true → ∀ (fuel : Nat) (cs : List Value) (ρ : bT) (H : AH), Rel P w w.heap.size ρ H w → cs.length = off + (a.w + b.w) →
   (∀ f ∈ fs, ∃ y, DataW.trod enc P w 0 (fun _ => true) held fuel f.type ((cs.drop f.offset).take (P.cellsOf f.type)) = some y ∧ wOK P f.type y.1) → ∃ ρ' H', Got P w ρ H (.pair a b) (cs.drop off) ρ' H' := by
   intro fs off hfs fuel cs ρ H hR hl h;simp only [rx] at hfs
   cases fs with
   | nil => cases hfs
   | cons f fs =>
    simp only [Bool.and_eq_true, beq_iff_eq] at hfs;obtain ⟨⟨⟨h1, h2⟩, h3⟩, h4⟩ := hfs;obtain ⟨y, hy, hwy⟩ := h f (by simp);rw [h1, h3] at hy;obtain ⟨ρ1, H1, x1, a1, hR1, hle1, hk1, hl1, ha1, hs1⟩ := iha.1 f.type h2 fuel _ y ρ H hR hy hwy;obtain ⟨ρ2, H2, x2, a2, hR2, hle2, hk2, hl2, ha2, hs2⟩ := ihb.2 fs (off + a.w) h4 fuel cs ρ1 H1 hR1 (by omega) (fun g hg => h g (by simp [hg]));refine ⟨ρ2, H2, (x1, x2), a1 ++ a2, hR2, fun b y h => hle2 b y (hle1 b y h), hk1.trans hk2, ?_, ⟨a1, a2, rfl, Abs.keep hk2 a x1 a1 ha1, ha2⟩, hs1, hs2⟩
    have e : cs.drop off = (cs.drop off).take a.w ++ cs.drop (off + a.w) := by
     rw [← List.drop_drop];exact (List.take_append_drop a.w (cs.drop off)).symm
    rw [e];exact (hl1.mono hle2).append hl2
  refine ⟨?_, fields⟩;intro t ht fuel cs x ρ H hR h hwx;obtain ⟨n, rfl⟩ := AL h;have ht' := ht;simp only [rx] at ht
  split at ht
  ·rename_i fs hu
   simp only [Bool.and_eq_true, beq_iff_eq] at ht;obtain ⟨xs, n', _, hxe, hlen, hxl, hxs⟩ := DataW.trod_struct hu h
   have := fields fs.toList 0 ht.2 n' cs ρ H hR (by rw [hlen, ht.1]; simp) (fun f hf => by
    obtain ⟨i, hi, rfl⟩ := List.mem_iff_getElem.1 hf;have := hxs i fs.toList[i] (by simp);rw [this]
    have hix : i < xs.length := by rw [hxl]; simpa using hi
    refine ⟨xs[i]'hix, cG _, fun n hn => hwx n ?_⟩;rw [hxe];unfold DataW.weights;rw [hu]
    exact CS (i := i) (by rw [vz, cG hi]; rfl) (by rw [vz, cG hix]; rfl) hn)
   simpa using this
  ·cases ht
end
def valOf : Ty → List Value → Value
 | .pair _ _, cs => .agg cs.toArray
 | .unit, cs => .agg cs.toArray
 | _, cs => cs.headD undef
abbrev ae6 : List Ty → Type
 | [] => Unit
 | t :: ts => t.I × ae6 ts
def tt (H : AH) : (ts : List Ty) → ae6 ts → List Value → Prop
 | [], _, vs => vs = []
 | t :: ts, x, vs => ∃ cs rest, vs = valOf t cs :: rest ∧ Abs H t x.1 cs ∧ tt H ts x.2 rest
theorem tt.keep {H H' : AH} (k : gg H H') : ∀ (ts : List Ty) (x : ae6 ts) (vs : List Value), tt H ts x vs → tt H' ts x vs := by
 intro ts
 induction ts with
 | nil => intro x vs h; exact h
 | cons t ts ih =>
  intro x vs h;obtain ⟨cs, rest, e, h1, h2⟩ := h;exact ⟨cs, rest, e, Abs.keep k t _ _ h1, ih _ _ h2⟩
def zi : (ts : List Ty) → ae6 ts → Prop
 | [], _ => True
 | t :: ts, x => DI t x.1 ∧ zi ts x.2
def tF (P : Program) : List Ty → List TypeId → Bool
 | [], [] => true
 | ty :: tys, t :: ts => (rx P ty).1 t && P.readableRec t && decide (t < P.types.size) && tF P tys ts
 | _, _ => false
section
variable {Hd : Type} {enc : TypeId × Value → Hd} {P : Program} {w : World} {held : Bool}
theorem apS {ty : Ty} {t : TypeId} (ht : (rx P ty).1 t = true) {v : Value} {d : DataW Hd} {ps : List MemPlace} {r : Reach} {b0 : Nat} (hval : Value.okWide P w r b0 t v) (h : DataW.Trod enc P w 0 (fun _ => true) held t v d ps) (hwd : wOK P t d)
 {ρ : bT} {H : AH} (hR : Rel P w w.heap.size ρ H w) : ∃ ρ' H' x avs, Rel P w w.heap.size ρ' H' w ∧ (∀ b y, ρ b = some y → ρ' b = some y) ∧ gg H H' ∧ VRel P ρ' (valOf ty avs) v ∧ Abs H' ty x avs ∧ DI ty x := by
 obtain ⟨fuel, h⟩ := h;obtain ⟨ρ', H', x, avs, h1, h2, h3, h4, h5, h6⟩ := (aoM (enc := enc) (P := P) (w := w) (held := held) ty).1 t ht fuel _ _ ρ H hR h hwd;refine ⟨ρ', H', x, avs, h1, h2, h3, ?_, h5, h6⟩;have hlen := Abs.length ty x avs h5
 have one : ∀ (hw : ty.w = 1) (hva : ∀ cs, v ≠ .agg cs), VRel P ρ' (avs.headD undef) v := by
  intro hw hva
  have hc : v.cells.toList = [v] := by
   cases v <;> first | rfl | exact absurd rfl (hva _)
  rw [hc] at h4
  match avs, hlen with
  | [a], _ => exact h4.2 0 a v rfl rfl
  | [], hl => rw [hw] at hl; cases hl
  | a :: b :: l, hl => rw [hw] at hl; simp at hl
 cases ty with
 | int k =>
  refine one rfl (fun cs e => ?_);subst e;simp only [rx] at ht
  split at ht
  ·rename_i hu
   unfold Value.okWide at hval;rw [hu] at hval;unfold Cell.okWide at hval;rw [hu] at hval;unfold Cell.ok at hval;rw [hu] at hval;exact hval
  ·cases ht
 | bool =>
  refine one rfl (fun cs e => ?_);subst e;simp only [rx] at ht
  split at ht
  ·rename_i hu
   unfold Value.okWide at hval;rw [hu] at hval;unfold Cell.okWide at hval;rw [hu] at hval;unfold Cell.ok at hval;rw [hu] at hval;exact hval
  ·cases ht
 | slice e =>
  refine one rfl (fun cs e => ?_);subst e;simp only [rx] at ht
  split at ht
  ·rename_i hu
   unfold Value.okWide at hval;rw [hu] at hval;unfold Cell.okWide at hval;rw [hu] at hval;unfold Cell.ok at hval;rw [hu] at hval;exact hval
  ·cases ht
 | unit => simp only [rx] at ht; cases ht
 | pair a b =>
  simp only [rx] at ht
  split at ht
  ·rename_i fs hu
   unfold Value.okWide at hval;rw [hu] at hval;obtain ⟨cs, rfl, _⟩ := hval;have h4 : LRel P ρ' avs cs.toList := h4;exact .agg (by simpa using h4.1) (fun i x y hx hy => h4.2 i x y (by simpa using hx) (by simpa using hy))
  ·cases ht
theorem afJ : ∀ (tys : List Ty) (ts : List TypeId) (vs : List Value) (ds : List (DataW Hd)) (ps : List MemPlace), tF P tys ts = true → (∀ (j : Nat) t v, ts[j]? = some t → vs[j]? = some v → ∃ r b0, Value.okWide P w r b0 t v) →
 DataW.TrodAll enc P w 0 (fun _ => true) held ts vs ds ps → (∀ n ∈ DataW.weightsEach P ts ds, n ≤ reachBytes) → ∀ (ρ : bT) (H : AH), Rel P w w.heap.size ρ H w →
 ∃ ρ' H' x avs, Rel P w w.heap.size ρ' H' w ∧ (∀ b y, ρ b = some y → ρ' b = some y) ∧ gg H H' ∧ LRel P ρ' avs vs ∧ tt H' tys x avs ∧ zi tys x := by
 intro tys
 induction tys with
 | nil =>
  intro ts vs ds ps hc hval h hwd ρ H hR
  cases ts with
  | cons t ts => cases hc
  | nil =>
   obtain ⟨rfl, _, _⟩ := trodAll_nil h;exact ⟨ρ, H, (), [], hR, fun _ _ h => h, gg.refl H, LRel.nil, rfl, trivial⟩
 | cons ty tys ih =>
  intro ts vs ds ps hc hval h hwd ρ H hR
  cases ts with
  | nil => cases hc
  | cons t ts =>
   simp only [tF, Bool.and_eq_true] at hc;obtain ⟨⟨⟨hc1, _⟩, _⟩, hc2⟩ := hc;obtain ⟨v, vs', d, ds', p, q, rfl, rfl, rfl, hd, hrest⟩ := trodAll_cons h;obtain ⟨r, b0, hv0⟩ := hval 0 t v rfl rfl;obtain ⟨ρ1, H1, x1, a1, hR1, hle1, hk1, hv1, ha1, hs1⟩ := apS hc1 hv0 hd (fun n hn => hwd n (by rw [DataW.weightsEach]; exact List.mem_append_left _ hn)) hR;obtain ⟨ρ2, H2, x2, a2, hR2, hle2, hk2, hl2, ha2, hs2⟩ := ih ts vs' ds' q hc2 (fun j t v h1 h2 => hval (j + 1) t v (by simpa using h1) (by simpa using h2)) hrest (fun n hn => hwd n (by rw [DataW.weightsEach]; exact List.mem_append_right _ hn)) ρ1 H1 hR1;exact ⟨ρ2, H2, (x1, x2), valOf ty a1 :: a2, hR2, fun b y h => hle2 b y (hle1 b y h), hk1.trans hk2, LRel.cons (hv1.mono hle2) hl2, ⟨a1, a2, rfl, Abs.keep hk2 ty x1 a1 ha1, ha2⟩, hs1, hs2⟩
theorem YU (hl : laidOutB P = true) {W' : World} (hb : Below w.heap.size w W') : ∀ (tys : List Ty) (ts : List TypeId) (vs : List Value) (ds : List (DataW Hd)) (ps : List MemPlace), tF P tys ts = true → (∀ x ∈ ps, x.block < w.heap.size) →
 DataW.TrodAll enc P w 0 (fun _ => true) true ts vs ds ps → DataW.TrodAll enc P W' 0 (fun b => decide (b < w.heap.size)) true ts vs ds ps := by
 intro tys
 induction tys with
 | nil =>
  intro ts vs ds ps hc hlt h
  cases ts with
  | cons t ts => cases hc
  | nil =>
   obtain ⟨rfl, rfl, rfl⟩ := trodAll_nil h;exact trodAll_mk0
 | cons ty tys ih =>
  intro ts vs ds ps hc hlt h
  cases ts with
  | nil => cases hc
  | cons t ts =>
   simp only [tF, Bool.and_eq_true, decide_eq_true_eq] at hc;obtain ⟨⟨⟨_, hc1⟩, hc3⟩, hc2⟩ := hc;obtain ⟨v, vs', d, ds', p, q, rfl, rfl, rfl, hd, hrest⟩ := trodAll_cons h;exact ⟨p, q, Below.trod hl hc1 hc3 hd hb (fun x hx => hlt x (by simp [hx])), ih ts vs' ds' q hc2 (fun x hx => hlt x (by simp [hx])) hrest, rfl⟩
theorem law_post (hm : P.follows .mixedOrders = true) (hl : laidOutB P = true) {G : List Nat} {f : Nat} {fn : Func} {s : ChangeSpec} {tys : List Ty} (hc : tF P tys fn.params.toList = true)
 {tb : TypeId} (hres : fn.resultTypes = #[tb]) (hb : P.underlying tb = some .bool) (hvars : s.vars = [])
 {args : Array Value} {ds gs : List (DataW Hd)} {before : List MemPlace} (hval : ∀ (j : Nat) t v, fn.params[j]? = some t → args[j]? = some v → ∃ r b0, Value.okWide P w r b0 t v)
 (hW : DataW.Whole enc P fn.params.toList s.vars false w args.toList ds gs before) (hspec : s.fn Hd (ds ++ gs) = { results := [.lit (.bool true)], args := ds })
 {ρ0 : bT} {H0 : AH} (hR : Rel P w w.heap.size ρ0 H0 w) (hG : GlobRel ρ0 G)
 (hwt : (DataW.weightsEach P fn.params.toList ds).all (· ≤ reachBytes) = true)
 (run : ∀ (x : ae6 tys) (avs : List Value) (H : AH), gg H0 H → tt H tys x avs → zi tys x → ∃ H', aF P G f avs H = some (.bool true, H')) :
 Calls P f args w fun e w' => ∃ v, e = .returned v ∧ s.post enc P fn false true false false w args v w' := by
 have hW' := hW;obtain ⟨p, q, hA, hV, rfl, hfz, hnd⟩ := hW;rw [hvars] at hV;obtain ⟨rfl, rfl⟩ := trodVars_none hV;obtain ⟨ρ1, H1, x, avs, hR1, hle1, hk1, hl1, ha1, hs1⟩ := afJ tys fn.params.toList args.toList ds p hc (fun j t v h1 h2 => hval j t v (by simpa using h1) (by simpa using h2)) hA (fun n hn => by simpa using List.all_eq_true.1 hwt n hn) ρ0 H0 hR;obtain ⟨H', hrun⟩ := run x avs H1 hk1 ha1 hs1;have hG1 : GlobRel ρ1 G := fun g hg => let ⟨sz, h⟩ := hG g hg; ⟨sz, hle1 _ _ h⟩;have hcall := ((awQ (P := P) (G := G) hm).1 f avs H1 _ H' hrun).2 w w.heap.size ρ1 w args.toList hR1 hG1 hl1;rw [show args.toList.toArray = args from by simp] at hcall;refine hcall.mono fun e w' ⟨v', ρ', he, hv, hext, hR'⟩ => ?_
 have hv : v' = .bool true := by
  cases hv with
  | lit h => rfl
 subst hv;subst he
 have hlt : ∀ y ∈ p, y.block < w.heap.size := fun y hy => by
  have := hW'.lt y (by simp [hy])
  simpa using this
 refine ⟨_, rfl, ds, [], p ++ [], [], p, [], hW', ?_, ?_, ?_, ?_, fun h => by cases h⟩
 ·rw [hspec, hres]
  exact ⟨[], [], shut_bool hb true, trodAll_mk0, rfl⟩
 ·rw [hspec]
  exact YU hl hR'.below tys _ _ _ _ hc hlt hA
 ·rw [hvars, hspec]
  rfl
 ·exact hR'.below.frame _
end
theorem rel_none (P : Program) (w : World) : Rel P w w.heap.size (fun _ => none) ⟨[]⟩ w where
 base := bA _
 below := Below.refl _ _
 dom := fun b x h => by cases h
 blk := fun b c d sz h => by cases h
 obj := fun b c d sz o h => by cases h
 own := fun b c d sz o h => by cases h
 ro := fun b c d sz cs h => by cases h
 inj := fun b b' c d d' sz sz' o o' h => by cases h
end Go.Proofs.YtflbeghglllknaaGreatDoor.Gst
namespace Go.Proofs.YtflbeghglllknaaGreatDoor.Gst
open Go Go.RowKit
set_option maxRecDepth 100000
set_option linter.unusedVariables false
set_option maxHeartbeats 1000000
abbrev J4 : Nat := 1684996666696914987166688442938726917102321526408785780068975640575
abbrev YW : Nat := 65185151242703554760590262029100101153646988597309960020356494379340201592426774597868716015
abbrev QN : Nat := 1684996666696914987166688442938726917102321526408785780068975493118
abbrev QO : Nat := 1684996666696914987166688442938726917102321526408785780068975631358
abbrev afO : Nat := 1684996666696914987166688442938726917102321526408785780068967514080
abbrev afP : Nat := 1684996666696914987166688442938726917102321526408785780068975591402
abbrev afQ : Nat := 1684996666696914987166688442938726917102321526408785780068975637484
abbrev NA : Nat := 21778071482940061661655974875633165468609
abbrev QP : Nat := 21778071482940061661655974875633164469245
abbrev apT : Nat := 1684996666696914987166688442938726917102321526408785780068975640544
abbrev UO : Nat := 1684996666696914987166688442938726917102321526408785780068973805536
abbrev UP : Nat := 1684996666696914987166688442938726917102321526408785780068975624186
abbrev UQ : Nat := 1684996666696914987166688442938726917102321526408785780068975639548
abbrev wK : Nat := 1237940039285380274899122808
abbrev Im : Nat := 87112285931760246646623899502532662132671
abbrev Nt : Nat := 356811923176489970264571492362373784095686572
abbrev uD : Nat := 590295810358705651256
abbrev uE : Nat := 590295810358705650744
abbrev Nu : Nat := 21778071482940061661655974875633165530111
abbrev UR : Nat := 2923003274661805836407369665432566039311865085887
abbrev DV : Nat := 1237940039285380274899123320
abbrev uF : Nat := 9223372036854775352
abbrev DW : Nat := 309485009821345068724780233
abbrev asZ : Nat := 65185151242703554760590262029100101153646988597309960020356494379340201592426774597868715788
abbrev j4 : Nat := 1073741624
abbrev US : Nat := 21778071482940061661655974875633165517821
abbrev UT : Nat := 21778071482940061661655974875633165403073
abbrev uG : Nat := 9007199254740720
abbrev DX : Nat := 1180591620717411275765
abbrev AS : Nat := 9223372036854775608
abbrev mM : Nat := 1073741759
abbrev DY : Nat := 590295810358705649720
abbrev UU : Nat := 664613997892457936451903530140172271
abbrev Nv : Nat := 1237940039285380274899123832
abbrev afM : Nat := 356811923176489970264571492362373784095686540
abbrev afN : Nat := 356811923176489970264571492362373784095686412
abbrev DZ : Nat := 9223372036854775736
abbrev UV : Nat := 40564819207303340847894502572015
abbrev D0 : Nat := 1125899906842566
abbrev D3 : Nat := 9007199254740208
abbrev UW : Nat := 309485009821345068724780751
abbrev wL : Nat := 137438953423
abbrev AT : Nat := 4398046511091
abbrev AU : Nat := 137438953356
abbrev D4 : Nat := 4397241204723
abbrev Nw : Nat := 288230376151708650
abbrev UX : Nat := 1180591620717411292157
abbrev Nx : Nat := 72057594037927887
abbrev UY : Nat := 590295810358705651519
abbrev D5 : Nat := 274877905904
abbrev UZ : Nat := 36893488147419103219
abbrev Ny : Nat := 1125899906842598
abbrev U0 : Nat := 576460752303423436
abbrev U1 : Nat := 288230376151710698
abbrev D6 : Nat := 1073627115
abbrev D7 : Nat := 1073692589
abbrev D8 : Nat := 1073741708
abbrev afR : Nat := 18889465931478580850727
abbrev Nz : Nat := 4398046511090
abbrev U2 : Nat := 2251799813685196
abbrev afS : Nat := 9223372036854775807
noncomputable abbrev PP : Program := Tryz.prog
def GG : List Nat := [0]
noncomputable abbrev FF : bM := aF PP GG
noncomputable abbrev CQ (c : Code) (kn : KK) (kx : KX) (kr : KK) : KK := CK PP GG FF c kn kx kr
noncomputable abbrev uz (c : Code) (kx : KX) (kr : KK) : KK := CL PP GG FF c kx kr
def jH : Nat := 4
def jG : Nat := 5
def qx : Nat := 9
def bw : Nat := 10
def oa : Nat := 11
def vF : Nat := 13
def iU : Nat := 14
def lq : Nat := 15
def lp : Nat := 16
def O8 : Nat := 17
def ia : Nat := 18
def sI : Nat := 19
def lH : Nat := 20
def ef : Nat := 21
def alK : Nat := 25
def gf : Nat := 27
def jJ : Nat := 28
def fD : Nat := 29
def eu : Nat := 30
def oQ : Nat := 31
def sJ : Nat := 32
def nh : Nat := 33
def m8 : Nat := 34
def sK : Nat := 35
def eD : Nat := 36
def qv : Nat := 37
def ff : Nat := 38
def vG : Nat := 39
def alP : Nat := 40
def kw : Nat := 41
def kQ : Nat := 42
def z7 : Nat := 43
def z9 : Nat := 44
def z6 : Nat := 45
def fh : Nat := 46
def nk : Nat := 47
def bm : Nat := 48
def qw : Nat := 49
def qy : Nat := 50
def kO : Nat := 51
def ge : Nat := 52
def dw : Nat := 53
def en : Nat := 54
def dp : Nat := 55
def na : Nat := 56
def alQ : Nat := 57
def alS : Nat := 58
def dQ : Nat := 59
def oc : Nat := 60
def jN : Nat := 61
def fO : Nat := 62
def kT : Nat := 63
def oP : Nat := 64
def z8 : Nat := 65
def sH : Nat := 66
def sO : Nat := 67
def vH : Nat := 68
def vC : Nat := 69
def ng : Nat := 70
def ni : Nat := 71
def oS : Nat := 72
def oR : Nat := 73
def kP : Nat := 74
def ee : Nat := 75
def ic : Nat := 76
def gG : Nat := 77
def iZ : Nat := 78
def vD : Nat := 79
def b8 : Nat := 80
def eg : Nat := 81
def fQ : Nat := 82
def ne : Nat := 83
def ch : Nat := 84
def kC : Nat := 85
def gn : Nat := 86
def iC : Nat := 87
def jL : Nat := 88
def m6 : Nat := 89
def eZ : Nat := 90
def fS : Nat := 91
def fg : Nat := 92
def bJ : Nat := 93
def Gc : Nat := 94
def ie : Nat := 95
def ej : Nat := 96
def lJ : Nat := 97
def eW : Nat := 98
def b7 : Nat := 99
def iX : Nat := 100
def gR : Nat := 101
def iW : Nat := 102
def kB : Nat := 103
def nj : Nat := 104
def fR : Nat := 105
def iY : Nat := 106
def jK : Nat := 107
def atL : Nat := 108
def alN : Nat := 109
def lT : Nat := 110
def qZ : Nat := 111
def gb : Nat := 112
def dx : Nat := 113
def fN : Nat := 114
def alT : Nat := 115
def ko : Nat := 116
def alO : Nat := 117
def jI : Nat := 118
def fP : Nat := 119
def bI : Nat := 120
def sL : Nat := 121
def vI : Nat := 122
def yd : Nat := 123
def yc : Nat := 124
def alL : Nat := 125
def gm : Nat := 126
def vJ : Nat := 127
def cr : Nat := 128
def oT : Nat := 129
def dL : Nat := 130
def eO : Nat := 131
def gv : Nat := 132
def iO : Nat := 133
def Bo : Nat := 134
def fU : Nat := 135
def og : Nat := 136
def qz : Nat := 137
def gS : Nat := 138
def jo : Nat := 139
def ks : Nat := 140
def gD : Nat := 141
def dn : Nat := 142
def cW : Nat := 143
def cO : Nat := 144
def alM : Nat := 145
def kA : Nat := 146
def lK : Nat := 147
def ei : Nat := 148
def eS : Nat := 149
def eR : Nat := 150
def iV : Nat := 151
def lI : Nat := 152
def ky : Nat := 153
def kz : Nat := 154
def jM : Nat := 155
def sG : Nat := 156
def oO : Nat := 157
def Xt : Nat := 158
def I3 : Nat := 159
def jE : Nat := 160
def vK : Nat := 161
def sN : Nat := 162
def sM : Nat := 171
def dX : Nat := 172
def lr : Nat := 173
def dt : Nat := 174
def nb : Nat := 175
def mz : Nat := 176
def mv : Nat := 177
def ya : Nat := 178
def bN : Nat := 179
def hZ : Nat := 180
def dm : Nat := 181
def cX : Nat := 182
def bf : Nat := 183
def cm : Nat := 184
def bV : Nat := 185
def nc : Nat := 186
def alR : Nat := 187
def sP : Nat := 188
def vE : Nat := 189
def jO : Nat := 204
def gc : Nat := 205
def dR : Nat := 206
def cq : Nat := 207
def fc : Nat := 208
def kR : Nat := 209
def bq : Nat := 210
def aO : Nat := 211
def dy : Nat := 212
def O9 : Nat := 213
def qA : Nat := 214
def fT : Nat := 243
def mw : Nat := 244
def fe : Nat := 245
def kS : Nat := 246
def cn : Nat := 247
def d8 : Nat := 248
def fi : Nat := 249
def oU : Nat := 250
def ft : Nat := 251
def ij : Nat := 267
def ig : Nat := 268
def pI : Nat := 269
def kq : Nat := 270
def kp : Nat := 271
def kD : Nat := 272
def dM : Nat := 273
def dF : Nat := 274
def cw : Nat := 275
def fM : Nat := 281
def gF : Nat := 282
def pH : Nat := 283
def iB : Nat := 284
def mC : Nat := 285
def oh : Nat := 286
def iD : Nat := 287
def cE : Nat := 288
def fL : Nat := 289
def od : Nat := 290
def yb : Nat := 291
def mB : Nat := 292
def mt : Nat := 293
def mu : Nat := 294
def gu : Nat := 295
def lL : Nat := 296
def ik : Nat := 297
def gC : Nat := 298
def ku : Nat := 299
def dW : Nat := 300
def jF : Nat := 301
def my : Nat := 302
def i9 : Nat := 303
def mA : Nat := 304
def ja : Nat := 305
def pG : Nat := 306
section
variable (x0 x1 x2 x3 x4 x5 x6 x7 x8 x9 x10 x11 x12 x13 x14 x15 x16 x20 x32 : Value) (H : AH)
theorem B0 {r : Value × AH} (h : (
 aQ (Value.cells x0).toList H fun d e =>
 (ax 5 d e).bind fun n =>
 (FF bw [x3, (vi 5)] e).bind fun f =>
 bX (ax 5 d f.2) (ax 5 d e) <|
 (FF qx [n, f.1] f.2).bind fun g =>
 (ag g.1 0).bind fun o =>
 (ag g.1 1).bind fun p =>
 aQ [(.pointer none), (.pointer none)] g.2 fun a q =>
 (cJ 2 a o q).bind fun s =>
 (FF oa [] s).bind fun b =>
 (ot .not b.1).bind fun i =>
 (gV i false p).bind fun t =>
 (gB i false (ot .not t)).bind fun w =>
 (aL i (vb true) w).bind fun y =>
 av y
 (some ((vb false), b.2))
 ((ax 2 a b.2).bind fun z =>
 (FF lp [x1, (vi 24)] b.2).bind fun j =>
 bX (ax 2 a j.2) (ax 2 a b.2) <|
 (FF O8 [x2, (vi 9), (vi 300)] j.2).bind fun k =>
 bX (ax 2 a k.2) (ax 2 a b.2) <|
 (FF lq [z, j.1, k.1, (vi 400), (vb false)] k.2).bind fun c =>
 (ag c.1 0).bind fun C =>
 (ag c.1 1).bind fun l =>
 (gB l true (ax 2 a c.2)).bind fun A =>
 (gE l true c.2 (FF iU [A] c.2)).bind fun m =>
 (aL l m.1 (vb false)).bind fun B =>
 some (B, m.2))) = some r) : FF jH [x0, x1, x2, x3] H = some r :=
 fo Tryz.func4 (by kernel_rfl) h
noncomputable def HH (p : List Nat) : Code := Code.sub (bK Tryz.f5) p
noncomputable def Fy : KK := dK PP (Tryz.f5).results.toList
noncomputable def as3 : KK := CQ (HH [1, 1, 1, 1]) Fy bv Fy
noncomputable def qR : OV := as3 (ls [u, x1, u, x3, u, u, u, u, u, u, x10, x11, u, x13] 56) H
noncomputable def ajU : KK := CQ (HH [1, 1, 1, 1, 1]) Fy bv Fy
noncomputable def as2 : KK := dD UX ajU
noncomputable def qS : OV := ajU (ls [u, x1, u, u, u, u, u, u, u, u, x10, x11, u, x13] 56) H
noncomputable def ajV : KK := CQ (HH [1, 1, 1, 1, 0, 1]) as2 bv Fy
noncomputable def pz : OV := ajV (ls [u, x1, u, x3, u, u, u, u, u, u, x10, x11, u, x13, x14] 55) H
noncomputable def Su : KX := BX 0 as2 bv
noncomputable def LK : KX := nJ UX Su
noncomputable def Sr : KK := uz (HH [1, 1, 1, 1, 0, 1, 4, 5]) LK Fy
noncomputable def ajT : KK := dD DX Sr
noncomputable def g9 : OV := Sr (ls [u, x1, u, x3, u, u, u, u, u, u, x10, x11, u, x13, x14] 55) H
noncomputable def ajX : KK := CQ (HH [1, 1, 1, 1, 0, 1, 4, 5, 1]) ajT LK Fy
noncomputable def pA : OV := ajX (ls [u, x1, u, x3, u, u, u, u, u, u, x10, x11, u, x13, x14] 55) H
noncomputable def Ss : KK := CQ (HH [1, 1, 1, 1, 0, 1, 4, 5, 1, 1]) ajT LK Fy
noncomputable def auX : KK := dD DX Ss
noncomputable def pB : OV := Ss (ls [u, x1, u, x3, u, u, u, u, u, u, x10, x11, u, x13, x14] 55) H
noncomputable def auY : KX := BX 1 auX LK
noncomputable def i8 : OV := Su 0 (ls [u, x1, u, u, u, u, u, u, u, u, x10, x11, u, x13] 56) H
theorem sg : ap 1180591620717411302399 Fy := rf
theorem arA : ap 1180591620717411292149 as3 := rc sg aw sg
theorem LJ : ap UX ajU := rc sg aw sg
theorem ajW : ap DX ajV := rc (cd LJ) aw sg
theorem sj : ∀ i, ap UX (Su i) := rb (cd LJ) aw
theorem xt : ap DX Sr := rl (cx sj) sg
theorem ajY : ap DX ajX := rc (cd xt) (cx sj) sg
theorem OC : ap DX Ss := rc (cd xt) (cx sj) sg
theorem ajZ : ∀ i, ap DX (auY i) := rb (cd OC) (cx sj)
theorem vx : qS x1 x10 x11 x13 H =
 (ax 2 x11 H).bind fun e =>
 (FF lp [x1, (vi 24)] H).bind fun b =>
 bX (ax 2 x11 b.2) (ax 2 x11 H) <|
 (FF lq [e, b.1, x13, (vi 400), (vb true)] b.2).bind fun a =>
 (ag a.1 0).bind fun i =>
 (ag a.1 1).bind fun c =>
 (gB c true (ax 2 x11 a.2)).bind fun f =>
 (gE c true a.2 (FF iU [f] a.2)).bind fun d =>
 (aL c d.1 (vb false)).bind fun g =>
 some (g, d.2) :=
 (by kernel_rfl)
theorem uj : pB x1 x3 x10 x11 x13 x14 H =
 (ai .other .add x14 (vi 1)).bind fun a =>
 g9 x1 x3 x10 x11 x13 a H :=
 (by kernel_rfl)
theorem ui : pA x1 x3 x10 x11 x13 x14 H =
 ld [.i 1 x14] x3 H fun b =>
 ld [.i 1 x14] x3 H fun c =>
 ld [.i 1 x14] x3 H fun d =>
 z5 4 1 [(vi 0)] [(0, (vi 8)), (1, b), (2, c), (3, d)] H fun e f =>
 (eJ 1 8 x13 e f).bind fun a =>
 pB x1 x3 x10 x11 a.1 x14 a.2 :=
 (pt rfl 0 OC (bt rfl (HH [1, 1, 1, 1, 0, 1, 4, 5, 1, 0, 4]) 1 ajZ (by kernel_rfl)))
theorem ry : i8 x1 x10 x11 x13 H = qS x1 x10 x11 x13 H :=
 (by kernel_rfl)
theorem lO : g9 x1 x3 x10 x11 x13 x14 H =
 fy x3 fun b =>
 (ai .other .lss x14 b).bind fun a =>
 (gV a true x14).bind fun c =>
 (gB a true (ai .other .lss c (vi 30))).bind fun d =>
 (aL a d (vb false)).bind fun e =>
 av e
 (pA x1 x3 x10 x11 x13 x14 H)
 (i8 x1 x10 x11 x13 H) :=
 uW rfl xt (pt rfl 0 ajY (by kernel_rfl))
theorem uh : pz x1 x3 x10 x11 x13 x14 H =
 g9 x1 x3 x10 x11 x13 x14 H :=
 (bt rfl (HH [1, 1, 1, 1, 0, 1, 4]) 0 sj (li rfl (HH [1, 1, 1, 1, 0, 1, 4, 5]) xt (by kernel_rfl)))
theorem vt : qR x1 x3 x10 x11 x13 H =
 pz x1 x3 x10 x11 x13 (vi 0) H :=
 (pt rfl 0 LJ (pt rfl 0 ajW (by kernel_rfl)))
noncomputable def LT : OV := ba PP GG FF (HH []) (ls [x0, x1, x2, x3, x4] 65) H Fy bv Fy
theorem BZ {r : Value × AH} (h : (
 aQ (Value.cells x0).toList H fun a b =>
 (ax 5 a b).bind fun j =>
 (FF bw [x4, (vi 5)] b).bind fun c =>
 bX (ax 5 a c.2) (ax 5 a b) <|
 (FF qx [j, c.1] c.2).bind fun d =>
 (ag d.1 0).bind fun k =>
 (ag d.1 1).bind fun l =>
 aQ [(.pointer none), (.pointer none)] d.2 fun g m =>
 (cJ 2 g k m).bind fun n =>
 (FF oa [] n).bind fun e =>
 (ot .not e.1).bind fun f =>
 (gV f false l).bind fun o =>
 (gB f false (ot .not o)).bind fun p =>
 (aL f (vb true) p).bind fun q =>
 av q
 (some ((vb false), e.2))
 ((FF O8 [x2, (vi 9), (vi 200)] e.2).bind fun i =>
 qR x1 x3 (vb false) g i.1 i.2)) = some r) : FF jG [x0, x1, x2, x3, x4] H = some r :=
 fo (t := LT x0 x1 x2 x3 x4 H) Tryz.func5 (by kernel_rfl) (Eq.trans (pt rfl 3 arA (by kernel_rfl)) h)
noncomputable def HI (p : List Nat) : Code := Code.sub (bK Tryz.f9) p
noncomputable def FE : KK := dK PP (Tryz.f9).results.toList
noncomputable def as6 : KK := CQ (HI [1, 1, 1, 1, 1]) FE bv FE
noncomputable def Bh : OV := as6 (ls [u, x1, x2, u, x4, x5, u, u, x8] 79) H
noncomputable def akP : KK := CQ (HI [1, 1, 1, 1, 1, 1]) FE bv FE
noncomputable def as4 : KK := dD UW akP
noncomputable def Bi : OV := akP (ls [u, u, u, u, x4, x5, u, u, x8] 79) H
noncomputable def as7 : KK := CQ (HI [1, 1, 1, 1, 1, 0, 1]) as4 bv FE
noncomputable def Bj : OV := as7 (ls [u, x1, x2, u, x4, x5, u, u, x8, x9] 78) H
noncomputable def akT : KX := BX 0 as4 bv
noncomputable def Xe : KX := nJ UW akT
noncomputable def akQ : KK := uz (HI [1, 1, 1, 1, 1, 0, 1, 4, 5]) Xe FE
noncomputable def as5 : KK := dD DW akQ
noncomputable def nY : OV := akQ (ls [u, x1, x2, u, x4, x5, u, u, x8, x9] 78) H
noncomputable def as8 : KK := CQ (HI [1, 1, 1, 1, 1, 0, 1, 4, 5, 1]) as5 Xe FE
noncomputable def Bk : OV := as8 (ls [u, x1, x2, u, x4, x5, u, u, x8, x9] 78) H
noncomputable def akR : KK := CQ (HI [1, 1, 1, 1, 1, 0, 1, 4, 5, 1, 1]) as5 Xe FE
noncomputable def awY : KK := dD DW akR
noncomputable def sB : OV := akR (ls [u, x1, x2, u, x4, x5, u, u, x8, x9] 78) H
noncomputable def au5 : KX := BX 1 awY Xe
noncomputable def uR : OV := akT 0 (ls [u, u, u, u, x4, x5, u, u, x8] 79) H
theorem sn : ap 309485009821345068724781007 FE := rf
theorem arB : ap 309485009821345068724780745 as6 := rc sn aw sn
theorem LN : ap UW akP := rc sn aw sn
theorem arC : ap DW as7 := rc (cd LN) aw sn
theorem xv : ∀ i, ap UW (akT i) := rb (cd LN) aw
theorem Dl : ap DW akQ := rl (cx xv) sn
theorem arD : ap DW as8 := rc (cd Dl) (cx xv) sn
theorem Xd : ap DW akR := rc (cd Dl) (cx xv) sn
theorem akS : ∀ i, ap DW (au5 i) := rb (cd Xd) (cx xv)
theorem FX : Bi x4 x5 x8 H =
 (ax 2 x8 H).bind fun b =>
 (cJ 2 x4 b H).bind fun a =>
 (ax 2 x4 a).bind fun c => some (Value.tuple #[c, (vb true)], a) :=
 (by kernel_rfl)
theorem F0 : sB x1 x2 x4 x5 x8 x9 H =
 (ai .other .add x9 (vi 1)).bind fun a =>
 nY x1 x2 x4 x5 x8 a H :=
 (by kernel_rfl)
theorem FZ : Bk x1 x2 x4 x5 x8 x9 H =
 ld [.f 0] x2 H fun d =>
 (ai .other .quo x9 d).bind fun e =>
 ld [.f 1] x2 H fun g =>
 (ai .other .lss e g).bind fun a =>
 (gB a true (ax 2 x8 H)).bind fun i =>
 (gV a true x9).bind fun j =>
 (gV a true x9).bind fun k =>
 (gB a true (ai .other .add (vi 1) k)).bind fun l =>
 (gV a true x9).bind fun m =>
 (gB a true (ai .other .rem m (vi 2))).bind fun n =>
 (gB a true (ai .other .add (vi 2) n)).bind fun o =>
 (gE a true H (FF m8 [i, j, l, o] H)).bind fun b =>
 (gB a true (ot .not b.1)).bind fun p =>
 (aL a p (vb false)).bind fun q =>
 av q
 (hJ [(0, 1), (1, 1)] [(.pointer none), (.pointer none)] [] fun s =>
 (cJ 2 x4 s b.2).bind fun c =>
 (ax 2 x4 c).bind fun t => some (Value.tuple #[t, (vb false)], c))
 (sB x1 x2 x4 x5 x8 x9 b.2) :=
 (pt rfl 0 Xd (bt rfl (HI [1, 1, 1, 1, 1, 0, 1, 4, 5, 1, 0, 4]) 1 akS (by kernel_rfl)))
theorem zO : uR x4 x5 x8 H = Bi x4 x5 x8 H :=
 (by kernel_rfl)
theorem sA : nY x1 x2 x4 x5 x8 x9 H =
 (ai .other .lss x9 x1).bind fun a =>
 av a
 (Bk x1 x2 x4 x5 x8 x9 H)
 (uR x4 x5 x8 H) :=
 uW rfl Dl (pt rfl 0 arD (by kernel_rfl))
theorem FY : Bj x1 x2 x4 x5 x8 x9 H =
 nY x1 x2 x4 x5 x8 x9 H :=
 (bt rfl (HI [1, 1, 1, 1, 1, 0, 1, 4]) 0 xv (li rfl (HI [1, 1, 1, 1, 1, 0, 1, 4, 5]) Dl (by kernel_rfl)))
theorem FW : Bh x1 x2 x4 x5 x8 H =
 Bj x1 x2 x4 x5 x8 (vi 0) H :=
 (pt rfl 0 LN (pt rfl 0 arC (by kernel_rfl)))
noncomputable def ak5 : OV := ba PP GG FF (HI []) (ls [x0, x1] 86) H FE bv FE
theorem OR {r : Value × AH} (h : (
 aQ (Value.cells x0).toList H fun c y =>
 aQ [(.pointer none), (.pointer none)] y fun k m =>
 (ax 5 c m).bind fun z =>
 (FF oQ [z] m).bind fun o =>
 (cJ 5 c o.1 o.2).bind fun p =>
 (ax 5 c p).bind fun A =>
 (FF sJ [A] p).bind fun a =>
 (ag a.1 0).bind fun b =>
 (ag a.1 1).bind fun B =>
 (ai .other .neq B (vi 0)).bind fun l =>
 (gV l false b).bind fun C =>
 (gB l false (ai .ptr .eql C (.pointer none))).bind fun D =>
 (aL l (vb true) D).bind fun d =>
 (gV d false b).bind fun E =>
 f0 d false  [.n, .f 0] E a.2 fun G =>
 (gB d false (ai .ptr .eql G (.pointer none))).bind fun I =>
 (aL d (vb true) I).bind fun e =>
 (gV e false b).bind fun J =>
 f0 e false  [.n, .f 1] J a.2 fun K =>
 (gB e false (ai .ptr .eql K (.pointer none))).bind fun L =>
 (aL e (vb true) L).bind fun g =>
 (gV g false b).bind fun M =>
 f0 g false  [.n, .f 2] M a.2 fun N =>
 (gB g false (ai .ptr .eql N (.pointer none))).bind fun O =>
 (aL g (vb true) O).bind fun i =>
 (gV i false b).bind fun P =>
 f0 i false  [.n, .f 3] P a.2 fun Q =>
 (gB i false (ai .ptr .eql Q (.pointer none))).bind fun R =>
 (aL i (vb true) R).bind fun j =>
 (gV j false b).bind fun S =>
 f0 j false  [.n, .f 4] S a.2 fun T =>
 (gB j false (ai .ptr .eql T (.pointer none))).bind fun U =>
 (aL j (vb true) U).bind fun V =>
 av V
 (hJ [(0, 1), (1, 1)] [(.pointer none), (.pointer none)] [] fun W =>
 (cJ 2 k W a.2).bind fun q =>
 (ax 2 k q).bind fun X => some (Value.tuple #[X, (vb false)], q))
 ((ax 5 c a.2).bind fun Y =>
 (FF nh [Y] a.2).bind fun s =>
 hJ [(0, 1), (1, 1)] [(.pointer none), (.pointer none)] [(0, b), (1, s.1)] fun Z =>
 aQ [(.pointer none), (.pointer none)] s.2 fun w a0 =>
 (cJ 2 w Z a0).bind fun a1 =>
 Bh x1 c k (vb false) w a1)) = some r) : FF qx [x0, x1] H = some r :=
 fo (t := ak5 x0 x1 H) Tryz.func9 (by kernel_rfl) (Eq.trans (pt rfl 4 arB (by kernel_rfl)) h)
theorem Po {r : Value × AH} (h : (
 (cf (some .u64) x0).bind fun a =>
 (cf (some .u64) x1).bind fun b =>
 (ai .other .rem a b).bind fun c =>
 (cf (some .i64) c).bind fun d =>
 some (d, H)) = some r) : FF bw [x0, x1] H = some r :=
 fo Tryz.func10 (by kernel_rfl) h
noncomputable def w4 (p : List Nat) : Code := Code.sub (bK Tryz.f13) p
noncomputable def uJ : KK := dK PP (Tryz.f13).results.toList
noncomputable def agP : KK := CQ (w4 [1, 1]) uJ bv uJ
noncomputable def Bl : OV := agP (ls [u, x1, x2, u, x4, x5] 31) H
noncomputable def Rt : KK := CQ (w4 [1, 1, 1]) uJ bv uJ
noncomputable def KF : KK := dD wL Rt
noncomputable def jn : OV := Rt (ls [u, u, u, u, x4, x5] 31) H
noncomputable def agR : KK := CQ (w4 [1, 1, 0, 1]) KF bv uJ
noncomputable def Bm : OV := agR (ls [u, x1, x2, u, x4, x5, u, u, u, u, x10] 26) H
noncomputable def agV : KX := BX 0 KF bv
noncomputable def agW : KX := nJ wL agV
noncomputable def agT : KK := CQ (w4 [1, 1, 0, 1, 4, 1]) KF agW uJ
noncomputable def ll : OV := agT (ls [u, x1, x2, u, x4, x5, u, u, u, u, x10, u, u, u, x14] 22) H
noncomputable def VR : KK := CQ (w4 [1, 1, 0, 1, 4, 1, 3, 1]) KF agW uJ
noncomputable def mf : OV := VR (ls [u, x1, u, u, x4, x5, u, u, u, u, u, u, u, u, u, u, u, u, u, u, u, u, u, u, u, u, u, u, u, u, u, u, x32] 4) H
theorem p9 : ap 137438953455 uJ := rf
theorem agQ : ap 137438953417 agP := rc p9 aw p9
theorem rW : ap wL Rt := rc p9 aw p9
theorem agS : ap 137438952393 agR := rc (cd rW) aw p9
theorem EI : ∀ i, ap wL (agV i) := rb (cd rW) aw
theorem agU : ap 137438936009 agT := rc (cd rW) (cx EI) p9
theorem ZQ : ap 133143986125 VR := rc (cd rW) (cx EI) p9
theorem F2 : jn x4 x5 H =
 (ax 4 x5 H).bind fun b =>
 (cJ 4 x4 b H).bind fun a =>
 (ax 4 x4 a).bind fun c => some (c, a) :=
 (by kernel_rfl)
theorem BY : mf x1 x4 x5 x32 H =
 av x32
 (st 1 [.f 0] x5 (vi 2) H fun a =>
 jn x4 x5 a)
 (st 1 [.f 0] x5 (vi 3) H fun b =>
 st 1 [.f 3] x5 x1 b fun c =>
 jn x4 x5 c) :=
 (by kernel_rfl)
theorem sC : ll x1 x2 x4 x5 x10 x14 H =
 av x14
 (st 1 [.f 0] x5 (vi 1) H fun d =>
 ld [.f 2] x2 d fun i =>
 (FF bw [i, (vi 4)] d).bind fun a =>
 (ai .other .gtr a.1 (vi 0)).bind fun j =>
 av j
 (ld [.f 2] x2 a.2 fun k =>
 (FF bw [k, (vi 5)] a.2).bind fun b =>
 (ai .other .add (vi 1) b.1).bind fun l =>
 ad [.f 3] x2 fun c =>
 (ar c b.2).bind fun m =>
 bX (ar c a.2) (ar c b.2) <|
 (FF bw [m, (vi 3)] b.2).bind fun e =>
 (ai .other .add (vi 1) e.1).bind fun n =>
 st 1 [.f 2] x5 l e.2 fun o =>
 st 1 [.f 3] x5 n o fun p =>
 jn x4 x5 p)
 (jn x4 x5 a.2))
 ((ai .other .eql x10 (vi 2)).bind fun g =>
 av g
 (mf x1 x4 x5 g H)
 ((ai .other .eql x10 (vi 3)).bind fun q =>
 mf x1 x4 x5 q H)) :=
 (ct rfl (w4 [1, 1, 0, 1, 4, 1, 2]) (w4 [1, 1, 0, 1, 4, 1, 3]) (.tmp 14) (by kernel_rfl) (pt rfl 0 ZQ (by kernel_rfl)))
theorem F3 : Bm x1 x2 x4 x5 x10 H =
 (ai .other .eql x10 (vi 0)).bind fun a =>
 av a
 (ll x1 x2 x4 x5 x10 a H)
 ((ai .other .eql x10 (vi 1)).bind fun b =>
 ll x1 x2 x4 x5 x10 b H) :=
 (bt rfl (w4 [1, 1, 0, 1, 4]) 0 EI (pt rfl 0 agU (by kernel_rfl)))
theorem F1 : Bl x1 x2 x4 x5 H =
 ld [.f 0] x2 H fun b =>
 (FF bw [b, (vi 5)] H).bind fun a =>
 Bm x1 x2 x4 x5 a.1 a.2 :=
 (pt rfl 0 rW (pt rfl 0 agS (by kernel_rfl)))
noncomputable def ak6 : OV := ba PP GG FF (w4 []) (ls [x0, x1] 35) H uJ bv uJ
theorem OU {r : Value × AH} (h : (
 aQ (Value.cells x0).toList H fun a e =>
 aQ [(vi 0), (vi 0), (vi 0), (vi 0)] e fun f b =>
 (ax 4 a b).bind fun g =>
 (FF sK [g] b).bind fun c =>
 aQ [(vi 0), (vi 0), (vi 0), (vi 0)] c.2 fun d i =>
 (cJ 4 d c.1 i).bind fun j =>
 Bl x1 a f d j) = some r) : FF vF [x0, x1] H = some r :=
 fo (t := ak6 x0 x1 H) Tryz.func13 (by kernel_rfl) (Eq.trans (pt rfl 1 agQ (by kernel_rfl)) h)
theorem zP {r : Value × AH} (h : (
 aQ (Value.cells x0).toList H fun e d =>
 ld [.f 0] e d fun o =>
 ld [.n, .f 0] o d fun p =>
 (FF ia [p] d).bind fun b =>
 ad [.f 1] e fun g =>
 (ar g b.2).bind fun q =>
 bX (ar g d) (ar g b.2) <|
 ad [.n, .f 5] q fun i =>
 (ar i b.2).bind fun s =>
 bX (ar i d) (ar i b.2) <|
 ad [.n, .f 2] s fun j =>
 (ar j b.2).bind fun t =>
 bX (ar j d) (ar j b.2) <|
 (FF eD [b.1, t] b.2).bind fun a =>
 f0 a.1 true  [.f 0] e a.2 fun w =>
 (gE a.1 true a.2 (FF alK [w] a.2)).bind fun c =>
 HK a.1 true  [.f 1] e fun k =>
 (gB a.1 true (ar k c.2)).bind fun y =>
 bX (ar k a.2) (ar k c.2) <|
 HK a.1 true  [.n, .f 13] y fun l =>
 (gB a.1 true (ar l c.2)).bind fun z =>
 bX (ar l a.2) (ar l c.2) <|
 (gE a.1 true c.2 (FF qv [c.1, z, (.func (.func ff) #[] #[])] c.2)).bind fun m =>
 (aL a.1 m.1 (vb false)).bind fun A =>
 some (A, m.2)) = some r) : FF iU [x0] H = some r :=
 fo Tryz.func14 (by kernel_rfl) h
noncomputable def iu (p : List Nat) : Code := Code.sub (bK Tryz.f15) p
noncomputable def iL : KK := dK PP (Tryz.f15).results.toList
noncomputable def ahD : KK := CQ (iu [1, 1, 1, 1]) iL bv iL
noncomputable def xN : OV := ahD (ls [u, x1, x2, x3, x4, x5, u, u, u, u, x10, x11, x12, x13, x14] 119) H
noncomputable def RP : KK := CQ (iu [1, 1, 1, 1, 1]) iL bv iL
noncomputable def ahA : KK := dD US RP
noncomputable def qt : OV := RP (ls [u, x1, u, u, u, u, u, u, u, u, x10, x11, x12, x13] 120) H
noncomputable def RQ : KK := CQ (iu [1, 1, 1, 1, 1, 1]) iL bv iL
noncomputable def ahB : KK := dD Nu RQ
noncomputable def xO : OV := RQ (ls [u, u, u, u, u, u, u, u, u, u, x10, x11] 122) H
noncomputable def ahF : KK := CQ (iu [1, 1, 1, 1, 1, 0, 1]) ahB bv iL
noncomputable def xR : OV := ahF (ls [u, x1, u, u, u, u, u, u, u, u, x10, x11, x12, x13, u, u, u, u, u, u, x20] 113) H
noncomputable def RT : KX := BX 2 ahB bv
noncomputable def K7 : KX := nJ Nu RT
noncomputable def RR : KK := uz (iu [1, 1, 1, 1, 1, 0, 1, 4, 5]) K7 iL
noncomputable def ahC : KK := dD QP RR
noncomputable def mh : OV := RR (ls [u, x1, u, u, u, u, u, u, u, u, x10, x11, x12, x13, u, u, u, u, u, u, x20] 113) H
noncomputable def ahH : KK := CQ (iu [1, 1, 1, 1, 1, 0, 1, 4, 5, 1]) ahC K7 iL
noncomputable def xS : OV := ahH (ls [u, x1, u, u, u, u, u, u, u, u, x10, x11, x12, x13, u, u, u, u, u, u, x20] 113) H
noncomputable def RS : KK := CQ (iu [1, 1, 1, 1, 1, 0, 1, 4, 5, 1, 1]) ahC K7 iL
noncomputable def auO : KK := dD QP RS
noncomputable def qu : OV := RS (ls [u, x1, u, u, u, u, u, u, u, u, x10, x11, x12, x13, u, u, u, u, u, u, x20] 113) H
noncomputable def auP : KX := BX 3 auO K7
noncomputable def sD : OV := RT 2 (ls [u, u, u, u, u, u, u, u, u, u, x10, x11] 122) H
noncomputable def Wf : KK := CQ (iu [1, 1, 1, 1, 0, 1]) ahA bv iL
noncomputable def uS : OV := Wf (ls [u, x1, x2, x3, x4, x5, u, u, u, u, x10, x11, x12, x13, x14, x15] 118) H
noncomputable def K5 : KX := BX 0 ahA bv
noncomputable def C5 : KX := nJ US K5
noncomputable def KZ : KK := uz (iu [1, 1, 1, 1, 0, 1, 4, 5]) C5 iL
noncomputable def We : KK := dD NA KZ
noncomputable def kK : OV := KZ (ls [u, x1, x2, x3, x4, x5, u, u, u, u, x10, x11, x12, x13, x14, x15] 118) H
noncomputable def Wg : KK := CQ (iu [1, 1, 1, 1, 0, 1, 4, 5, 1]) We C5 iL
noncomputable def uT : OV := Wg (ls [u, x1, x2, x3, x4, x5, u, u, u, u, x10, x11, x12, x13, x14, x15] 118) H
noncomputable def K4 : KK := CQ (iu [1, 1, 1, 1, 0, 1, 4, 5, 1, 1]) We C5 iL
noncomputable def w9 : KK := dD NA K4
noncomputable def iN : OV := K4 (ls [u, x1, x2, x3, x4, x5, u, u, u, u, x10, x11, x12, x13, x14, x15] 118) H
noncomputable def K6 : KX := BX 1 w9 C5
noncomputable def C6 : KX := nJ NA K6
noncomputable def Wh : KK := CQ (iu [1, 1, 1, 1, 0, 1, 4, 5, 1, 0, 4, 1]) w9 C6 iL
noncomputable def uU : OV := Wh (ls [u, x1, x2, x3, x4, x5, u, u, u, u, x10, x11, x12, x13, x14, x15, x16] 117) H
noncomputable def Wi : KK := CQ (iu [1, 1, 1, 1, 0, 1, 4, 5, 1, 0, 4, 1, 1]) w9 C6 iL
noncomputable def kL : OV := Wi (ls [u, x1, x2, x3, x4, x5, u, u, u, u, x10, x11, x12, x13, x14, x15, x16] 117) H
noncomputable def Wj : KK := CQ (iu [1, 1, 1, 1, 0, 1, 4, 5, 1, 0, 4, 1, 1, 1, 1]) w9 C6 iL
noncomputable def kM : OV := Wj (ls [u, x1, x2, x3, x4, x5, u, u, u, u, x10, x11, x12, x13, x14, x15, x16] 117) H
noncomputable def Wl : KK := CQ (iu [1, 1, 1, 1, 0, 1, 4, 5, 1, 0, 4, 1, 1, 1, 1, 1]) w9 C6 iL
noncomputable def kN : OV := Wl (ls [u, x1, x2, x3, x4, x5, u, u, u, u, x10, x11, x12, x13, x14, x15, x16] 117) H
noncomputable def iT : OV := K6 1 (ls [u, x1, x2, x3, x4, x5, u, u, u, u, x10, x11, x12, x13, x14, x15] 118) H
noncomputable def qX : OV := K5 0 (ls [u, x1, u, u, u, u, u, u, u, u, x10, x11, x12, x13] 120) H
theorem eA : ap Nu iL := rf
theorem ahE : ap 21778071482940061661655974875633165501377 ahD := rc eA aw eA
theorem Ff : ap US RP := rc eA aw eA
theorem Fg : ap Nu RQ := rc eA aw eA
theorem ahG : ap QP ahF := rc (cd Fg) aw eA
theorem rY : ∀ i, ap Nu (RT i) := rb (cd Fg) aw
theorem xa : ap QP RR := rl (cx rY) eA
theorem ahI : ap QP ahH := rc (cd xa) (cx rY) eA
theorem Ov : ap QP RS := rc (cd xa) (cx rY) eA
theorem ahJ : ∀ i, ap QP (auP i) := rb (cd Ov) (cx rY)
theorem aaA : ap NA Wf := rc (cd Ff) aw eA
theorem pc : ∀ i, ap US (K5 i) := rb (cd Ff) aw
theorem tO : ap NA KZ := rl (cx pc) eA
theorem aaB : ap NA Wg := rc (cd tO) (cx pc) eA
theorem mr : ap NA K4 := rc (cd tO) (cx pc) eA
theorem pd : ∀ i, ap NA (K6 i) := rb (cd mr) (cx pc)
theorem aaC : ap UT Wh := rc (cd mr) (cx pd) eA
theorem aaD : ap UT Wi := rc (cd mr) (cx pd) eA
theorem aaE : ap UT Wj := rc (cd mr) (cx pd) eA
theorem aaF : ap UT Wl := rc (cd mr) (cx pd) eA
theorem B7 : xO x10 x11 H =
 some (Value.tuple #[(vb true), (vb true)], H) :=
 (by kernel_rfl)
theorem Ca : qu x1 x10 x11 x12 x13 x20 H =
 (ai .other .add x20 (vi 1)).bind fun a =>
 mh x1 x10 x11 x12 x13 a H :=
 (by kernel_rfl)
theorem B9 : xS x1 x10 x11 x12 x13 x20 H =
 ld [.a 4 3 x20, .f 2] x12 H fun c =>
 (ai .ptr .neq c (.pointer none)).bind fun b =>
 (gV b false x20).bind fun d =>
 f0 b false  [.a 4 1 d] x13 H fun e =>
 (gV b false x1).bind fun g =>
 (gV b false x20).bind fun j =>
 f0 b false  [.i 1 j] g H fun k =>
 (Ab (yv b) false (fy k some) (some undef)).bind fun l =>
 (gB b false (ai .other .lss e l)).bind fun m =>
 (aL b (vb true) m).bind fun n =>
 av n
 (some (Value.tuple #[(vb false), (vb true)], H))
 (qu x1 x10 x11 x12 x13 x20 H) :=
 (pt rfl 0 Ov (bt rfl (iu [1, 1, 1, 1, 1, 0, 1, 4, 5, 1, 0, 4]) 3 ahJ (by kernel_rfl)))
theorem xM : sD x10 x11 H = xO x10 x11 H :=
 (by kernel_rfl)
theorem qY : mh x1 x10 x11 x12 x13 x20 H =
 (ai .other .lss x20 (vi 4)).bind fun a =>
 (gV a true x20).bind fun b =>
 (gV a true x1).bind fun c =>
 (Ab (yv a) true (fy c some) (some undef)).bind fun d =>
 (gB a true (ai .other .lss b d)).bind fun e =>
 (aL a e (vb false)).bind fun f =>
 av f
 (xS x1 x10 x11 x12 x13 x20 H)
 (sD x10 x11 H) :=
 uW rfl xa (pt rfl 0 ahI (by kernel_rfl))
theorem B8 : xR x1 x10 x11 x12 x13 x20 H =
 mh x1 x10 x11 x12 x13 x20 H :=
 (bt rfl (iu [1, 1, 1, 1, 1, 0, 1, 4]) 2 rY (li rfl (iu [1, 1, 1, 1, 1, 0, 1, 4, 5]) xa (by kernel_rfl)))
theorem B6 : qt x1 x10 x11 x12 x13 H =
 xR x1 x10 x11 x12 x13 (vi 0) H :=
 (pt rfl 0 Fg (pt rfl 0 ahG (by kernel_rfl)))
theorem zS : iN x1 x2 x3 x4 x5 x10 x11 x12 x13 x14 x15 H =
 (ai .other .add x15 (vi 1)).bind fun a =>
 kK x1 x2 x3 x4 x5 x10 x11 x12 x13 x14 a H :=
 (by kernel_rfl)
theorem zY : kN x1 x2 x3 x4 x5 x10 x11 x12 x13 x14 x15 x16 H =
 ldN 3 [.a 4 3 x16] x12 H fun e =>
 (ax 2 x5 H).bind fun f =>
 (FF lH [e, f, x14] H).bind fun b =>
 (ag b.1 0).bind fun g =>
 (ag b.1 1).bind fun i =>
 (ag b.1 2).bind fun j =>
 aQ [(vi 0), (.slice none 0 0), (vi 0), (vw 0)] b.2 fun k l =>
 (cJ 4 k g l).bind fun c =>
 (ot .not j).bind fun m =>
 av m
 (some (Value.tuple #[(vb false), (vb false)], c))
 ((ai .other .add x14 (vi 1)).bind fun d =>
 av i
 (hJ [(0, 1), (1, 1), (2, 1)] [(.pointer none), (.pointer none), (.pointer none)] [] fun n =>
 st 3 [.a 4 3 x16] x12 n c fun o =>
 iN x1 x2 x3 x4 x5 x10 x11 x12 x13 d x15 o)
 (iN x1 x2 x3 x4 x5 x10 x11 x12 x13 d x15 c)) :=
 (by kernel_rfl)
theorem mZ : iT x1 x2 x3 x4 x5 x10 x11 x12 x13 x14 x15 H = iN x1 x2 x3 x4 x5 x10 x11 x12 x13 x14 x15 H :=
 (by kernel_rfl)
theorem zX : kM x1 x2 x3 x4 x5 x10 x11 x12 x13 x14 x15 x16 H =
 ld [.a 4 3 x16, .f 2] x12 H fun e =>
 (ai .ptr .eql e (.pointer none)).bind fun g =>
 av g
 (fy x1 fun j =>
 (ai .other .geq x16 j).bind fun b =>
 (gV b false x16).bind fun k =>
 f0 b false  [.a 4 1 k] x13 H fun l =>
 (gV b false x1).bind fun m =>
 (gV b false x16).bind fun n =>
 f0 b false  [.i 1 n] m H fun o =>
 (Ab (yv b) false (fy o some) (some undef)).bind fun p =>
 (gB b false (ai .other .geq l p)).bind fun q =>
 (aL b (vb true) q).bind fun s =>
 av s
 (iT x1 x2 x3 x4 x5 x10 x11 x12 x13 x14 x15 H)
 ((ax 2 x5 H).bind fun t =>
 ld [.a 4 1 x16] x13 H fun w =>
 ld [.i 1 x16] x1 H fun y =>
 ld [.a 4 1 x16] x13 H fun z =>
 ldN 4 [.i 4 z] y H fun A =>
 (FF sI [t, x16, w, A] H).bind fun c =>
 st 3 [.a 4 3 x16] x12 c.1 c.2 fun d =>
 ld [.a 4 1 x16] x13 d fun B =>
 (ai .other .add B (vi 1)).bind fun C =>
 st 1 [.a 4 1 x16] x13 C d fun D =>
 kN x1 x2 x3 x4 x5 x10 x11 x12 x13 x14 x15 x16 D))
 (kN x1 x2 x3 x4 x5 x10 x11 x12 x13 x14 x15 x16 H) :=
 (pt rfl 0 aaF (by kernel_rfl))
theorem zW : kL x1 x2 x3 x4 x5 x10 x11 x12 x13 x14 x15 x16 H =
 (ai .other .eql x16 (vi 8)).bind fun b =>
 (gV b true x4).bind fun c =>
 (aL b c (vb false)).bind fun d =>
 av d
 ((ax 2 x5 H).bind fun e =>
 (FF vG [e, x15] H).bind fun a =>
 (ot .not a.1).bind fun f =>
 av f
 (some (Value.tuple #[(vb false), (vb false)], a.2))
 (iT x1 x2 x3 x4 x5 x10 x11 x12 x13 x14 x15 a.2))
 ((ai .other .rem x16 (vi 4)).bind fun g =>
 kM x1 x2 x3 x4 x5 x10 x11 x12 x13 x14 x15 g H) :=
 (pt rfl 1 aaE (by kernel_rfl))
theorem zV : uU x1 x2 x3 x4 x5 x10 x11 x12 x13 x14 x15 x16 H =
 fy x2 fun b =>
 (ai .other .lss x15 b).bind fun c =>
 av c
 (ld [.i 1 x15] x2 H fun d =>
 (FF bw [d, (vi 9)] H).bind fun a =>
 kL x1 x2 x3 x4 x5 x10 x11 x12 x13 x14 x15 a.1 a.2)
 (kL x1 x2 x3 x4 x5 x10 x11 x12 x13 x14 x15 x16 H) :=
 (pt rfl 0 aaD (by kernel_rfl))
theorem zR : uT x1 x2 x3 x4 x5 x10 x11 x12 x13 x14 x15 H =
 (ai .other .rem x15 (vi 4)).bind fun a =>
 uU x1 x2 x3 x4 x5 x10 x11 x12 x13 x14 x15 a H :=
 (pt rfl 0 mr (bt rfl (iu [1, 1, 1, 1, 0, 1, 4, 5, 1, 0, 4]) 1 pd (pt rfl 0 aaC (by kernel_rfl))))
theorem vy : qX x1 x10 x11 x12 x13 H = qt x1 x10 x11 x12 x13 H :=
 (by kernel_rfl)
theorem pE : kK x1 x2 x3 x4 x5 x10 x11 x12 x13 x14 x15 H =
 (ai .other .lss x15 x3).bind fun a =>
 av a
 (uT x1 x2 x3 x4 x5 x10 x11 x12 x13 x14 x15 H)
 (qX x1 x10 x11 x12 x13 H) :=
 uW rfl tO (pt rfl 0 aaB (by kernel_rfl))
theorem zQ : uS x1 x2 x3 x4 x5 x10 x11 x12 x13 x14 x15 H =
 kK x1 x2 x3 x4 x5 x10 x11 x12 x13 x14 x15 H :=
 (bt rfl (iu [1, 1, 1, 1, 0, 1, 4]) 0 pc (li rfl (iu [1, 1, 1, 1, 0, 1, 4, 5]) tO (by kernel_rfl)))
theorem B5 : xN x1 x2 x3 x4 x5 x10 x11 x12 x13 x14 H =
 uS x1 x2 x3 x4 x5 x10 x11 x12 x13 x14 (vi 0) H :=
 (pt rfl 0 Ff (pt rfl 0 aaA (by kernel_rfl)))
noncomputable def ab2 : OV := ba PP GG FF (iu []) (ls [x0, x1, x2, x3, x4] 129) H iL bv iL
theorem LW {r : Value × AH} (h : (
 aQ (Value.cells x0).toList H fun a b =>
 aQ [(.pointer none), (.pointer none), (.pointer none), (.pointer none), (.pointer none), (.pointer none), (.pointer none), (.pointer none), (.pointer none), (.pointer none), (.pointer none), (.pointer none)] b fun c d =>
 aQ [(vi 0), (vi 0), (vi 0), (vi 0)] d fun e f =>
 xN x1 x2 x3 x4 a (vb false) (vb false) c e (vi 0) f) = some r) : FF lq [x0, x1, x2, x3, x4] H = some r :=
 fo (t := ab2 x0 x1 x2 x3 x4 H) Tryz.func15 (by kernel_rfl) (Eq.trans (pt rfl 3 ahE (by kernel_rfl)) h)
noncomputable def uK (p : List Nat) : Code := Code.sub (bK Tryz.f16) p
noncomputable def rZ : KK := dK PP (Tryz.f16).results.toList
noncomputable def ahN : KK := CQ (uK [1, 1]) rZ bv rZ
noncomputable def xH : OV := ahN (ls [x0, x1, u, u, x4, x5] 31) H
noncomputable def RW : KK := CQ (uK [1, 1, 1]) rZ bv rZ
noncomputable def ahL : KK := dD wL RW
noncomputable def xI : OV := RW (ls [u, u, u, u, x4, x5] 31) H
noncomputable def ahP : KK := CQ (uK [1, 1, 0, 1]) ahL bv rZ
noncomputable def xJ : OV := ahP (ls [x0, x1, u, u, x4, x5, x6] 30) H
noncomputable def RZ : KX := BX 0 ahL bv
noncomputable def Ld : KX := nJ wL RZ
noncomputable def RX : KK := uz (uK [1, 1, 0, 1, 4, 5]) Ld rZ
noncomputable def ahM : KK := dD AU RX
noncomputable def mg : OV := RX (ls [x0, x1, u, u, x4, x5, x6] 30) H
noncomputable def ahR : KK := CQ (uK [1, 1, 0, 1, 4, 5, 1]) ahM Ld rZ
noncomputable def xK : OV := ahR (ls [x0, x1, u, u, x4, x5, x6] 30) H
noncomputable def RY : KK := CQ (uK [1, 1, 0, 1, 4, 5, 1, 1]) ahM Ld rZ
noncomputable def auQ : KK := dD AU RY
noncomputable def xL : OV := RY (ls [x0, x1, u, u, x4, x5, x6] 30) H
noncomputable def auR : KX := BX 1 auQ Ld
noncomputable def jB : OV := RZ 0 (ls [u, u, u, u, x4, x5] 31) H
theorem nN : ap 137438953455 rZ := rf
theorem ahO : ap 137438953420 ahN := rc nN aw nN
theorem Fk : ap wL RW := rc nN aw nN
theorem ahQ : ap AU ahP := rc (cd Fk) aw nN
theorem r6 : ∀ i, ap wL (RZ i) := rb (cd Fk) aw
theorem xd : ap AU RX := rl (cx r6) nN
theorem ahS : ap AU ahR := rc (cd xd) (cx r6) nN
theorem Oy : ap AU RY := rc (cd xd) (cx r6) nN
theorem ahT : ∀ i, ap AU (auR i) := rb (cd Oy) (cx r6)
theorem qV : xI x4 x5 H =
 some (x5, H) :=
 (by kernel_rfl)
theorem B4 : xL x0 x1 x4 x5 x6 H =
 (ai .other .add x6 (vi 1)).bind fun a =>
 mg x0 x1 x4 x5 a H :=
 (by kernel_rfl)
theorem B3 : xK x0 x1 x4 x5 x6 H =
 (ai .other .rem x6 (vi 4)).bind fun d =>
 (ai .other .rem x6 (vi 4)).bind fun e =>
 ad [.i 1 e] x5 fun a =>
 (ar a H).bind fun f =>
 ldN 4 [.i 4 x6] x0 H fun g =>
 (FF vF [g, x6] H).bind fun b =>
 bX (ar a b.2) (ar a H) <|
 z5 1 4 [(vi 0), (vi 0), (vi 0), (vi 0)] [(0, b.1)] b.2 fun j k =>
 (eJ 4 32 f j k).bind fun c =>
 st 1 [.i 1 d] x5 c.1 c.2 fun l =>
 xL x0 x1 x4 x5 x6 l :=
 (pt rfl 0 Oy (bt rfl (uK [1, 1, 0, 1, 4, 5, 1, 0, 4]) 1 ahT (by kernel_rfl)))
theorem nZ : jB x4 x5 H = xI x4 x5 H :=
 (by kernel_rfl)
theorem qW : mg x0 x1 x4 x5 x6 H =
 fy x0 fun b =>
 (ai .other .lss x6 b).bind fun a =>
 (gV a true x6).bind fun c =>
 (gV a true x1).bind fun d =>
 (gB a true (ai .other .lss c d)).bind fun e =>
 (aL a e (vb false)).bind fun f =>
 av f
 (xK x0 x1 x4 x5 x6 H)
 (jB x4 x5 H) :=
 uW rfl xd (pt rfl 0 ahS (by kernel_rfl))
theorem B2 : xJ x0 x1 x4 x5 x6 H =
 mg x0 x1 x4 x5 x6 H :=
 (bt rfl (uK [1, 1, 0, 1, 4]) 0 r6 (li rfl (uK [1, 1, 0, 1, 4, 5]) xd (by kernel_rfl)))
theorem B1 : xH x0 x1 x4 x5 H =
 xJ x0 x1 x4 x5 (vi 0) H :=
 (pt rfl 0 Fk (pt rfl 0 ahQ (by kernel_rfl)))
noncomputable def ab1 : OV := ba PP GG FF (uK []) (ls [x0, x1] 35) H rZ bv rZ
theorem LV {r : Value × AH} (h : (
 (nl [(.slice none 0 0)] 1 24 (vi 4) (vi 4) H).bind fun a =>
 xH x0 x1 (.slice none 0 0) a.1 a.2) = some r) : FF lp [x0, x1] H = some r :=
 fo (t := ab1 x0 x1 H) Tryz.func16 (by kernel_rfl) (Eq.trans (pt rfl 1 ahO (by kernel_rfl)) h)
noncomputable def gA (p : List Nat) : Code := Code.sub (bK Tryz.f17) p
noncomputable def jx : KK := dK PP (Tryz.f17).results.toList
noncomputable def ahW : KK := CQ (gA [1, 1]) jx bv jx
noncomputable def al4 : OV := ahW (ls [x0, x1, x2, u, u, u, x6, x7] 61) H
noncomputable def R4 : KK := CQ (gA [1, 1, 1]) jx bv jx
noncomputable def ahU : KK := dD UY R4
noncomputable def al5 : OV := R4 (ls [u, u, u, u, u, u, x6, x7] 61) H
noncomputable def ahY : KK := CQ (gA [1, 1, 0, 1]) ahU bv jx
noncomputable def al6 : OV := ahY (ls [x0, x1, x2, u, u, u, x6, x7, x8] 60) H
noncomputable def R7 : KX := BX 0 ahU bv
noncomputable def Lm : KX := nJ UY R7
noncomputable def R5 : KK := uz (gA [1, 1, 0, 1, 4, 5]) Lm jx
noncomputable def ahV : KK := dD uD R5
noncomputable def Mc : OV := R5 (ls [x0, x1, x2, u, u, u, x6, x7, x8] 60) H
noncomputable def ah0 : KK := CQ (gA [1, 1, 0, 1, 4, 5, 1]) ahV Lm jx
noncomputable def al7 : OV := ah0 (ls [x0, x1, x2, u, u, u, x6, x7, x8] 60) H
noncomputable def R6 : KK := CQ (gA [1, 1, 0, 1, 4, 5, 1, 1]) ahV Lm jx
noncomputable def R3 : KK := dD uD R6
noncomputable def S3 : OV := R6 (ls [x0, x1, x2, u, u, u, x6, x7, x8] 60) H
noncomputable def ah4 : KX := BX 1 R3 Lm
noncomputable def ah5 : KX := nJ uD ah4
noncomputable def ah2 : KK := CQ (gA [1, 1, 0, 1, 4, 5, 1, 0, 4, 1]) R3 ah5 jx
noncomputable def al8 : OV := ah2 (ls [x0, x1, x2, u, u, u, x6, x7, x8, x9] 59) H
noncomputable def Lk : KX := BX 2 R3 ah5
noncomputable def C8 : KX := nJ uD Lk
noncomputable def Lg : KK := uz (gA [1, 1, 0, 1, 4, 5, 1, 0, 4, 1, 4, 5]) C8 jx
noncomputable def Wt : KK := dD uE Lg
noncomputable def Dq : OV := Lg (ls [x0, x1, x2, u, u, u, x6, x7, x8, x9] 59) H
noncomputable def Wv : KK := CQ (gA [1, 1, 0, 1, 4, 5, 1, 0, 4, 1, 4, 5, 1]) Wt C8 jx
noncomputable def Xy : OV := Wv (ls [x0, x1, x2, u, u, u, x6, x7, x8, x9] 59) H
noncomputable def Lh : KK := CQ (gA [1, 1, 0, 1, 4, 5, 1, 0, 4, 1, 4, 5, 1, 1]) Wt C8 jx
noncomputable def Le : KK := dD uE Lh
noncomputable def Mb : OV := Lh (ls [x0, x1, x2, u, u, u, x6, x7, x8, x9] 59) H
noncomputable def Wy : KX := BX 3 Le C8
noncomputable def Wz : KX := nJ uE Wy
noncomputable def Ww : KK := CQ (gA [1, 1, 0, 1, 4, 5, 1, 0, 4, 1, 4, 5, 1, 0, 4, 1, 1]) Le Wz jx
noncomputable def Xz : OV := Ww (ls [x0, x1, x2, u, u, u, x6, x7, x8, x9, x10] 58) H
noncomputable def Ll : KX := BX 4 Le Wz
noncomputable def C9 : KX := nJ uE Ll
noncomputable def Li : KK := uz (gA [1, 1, 0, 1, 4, 5, 1, 0, 4, 1, 4, 5, 1, 0, 4, 1, 1, 4, 5]) C9 jx
noncomputable def Wu : KK := dD DY Li
noncomputable def Ds : OV := Li (ls [x0, x1, x2, u, u, u, x6, x7, x8, x9, x10] 58) H
noncomputable def Wx : KK := CQ (gA [1, 1, 0, 1, 4, 5, 1, 0, 4, 1, 4, 5, 1, 0, 4, 1, 1, 4, 5, 1]) Wu C9 jx
noncomputable def XA : OV := Wx (ls [x0, x1, x2, u, u, u, x6, x7, x8, x9, x10] 58) H
noncomputable def Lj : KK := CQ (gA [1, 1, 0, 1, 4, 5, 1, 0, 4, 1, 4, 5, 1, 0, 4, 1, 1, 4, 5, 1, 1]) Wu C9 jx
noncomputable def aqQ : KK := dD DY Lj
noncomputable def XB : OV := Lj (ls [x0, x1, x2, u, u, u, x6, x7, x8, x9, x10] 58) H
noncomputable def aqR : KX := BX 5 aqQ C9
noncomputable def t6 : OV := Ll 4 (ls [x0, x1, x2, u, u, u, x6, x7, x8, x9] 59) H
noncomputable def Ac : OV := Lk 2 (ls [x0, x1, x2, u, u, u, x6, x7, x8] 60) H
noncomputable def Pd : OV := R7 0 (ls [u, u, u, u, u, u, x6, x7] 61) H
theorem fC : ap 590295810358705651647 jx := rf
theorem ahX : ap 590295810358705651512 ahW := rc fC aw fC
theorem Fl : ap UY R4 := rc fC aw fC
theorem ahZ : ap uD ahY := rc (cd Fl) aw fC
theorem r7 : ∀ i, ap UY (R7 i) := rb (cd Fl) aw
theorem xf : ap uD R5 := rl (cx r7) fC
theorem ah1 : ap uD ah0 := rc (cd xf) (cx r7) fC
theorem xg : ap uD R6 := rc (cd xf) (cx r7) fC
theorem Fm : ∀ i, ap uD (ah4 i) := rb (cd xg) (cx r7)
theorem ah3 : ap uE ah2 := rc (cd xg) (cx Fm) fC
theorem pf : ∀ i, ap uD (Lk i) := rb (cd xg) (cx Fm)
theorem tQ : ap uE Lg := rl (cx pf) fC
theorem aaM : ap uE Wv := rc (cd tQ) (cx pf) fC
theorem tR : ap uE Lh := rc (cd tQ) (cx pf) fC
theorem zI : ∀ i, ap uE (Wy i) := rb (cd tR) (cx pf)
theorem aaN : ap DY Ww := rc (cd tR) (cx zI) fC
theorem pg : ∀ i, ap uE (Ll i) := rb (cd tR) (cx zI)
theorem tS : ap DY Li := rl (cx pg) fC
theorem aaO : ap DY Wx := rc (cd tS) (cx pg) fC
theorem IH : ap DY Lj := rc (cd tS) (cx pg) fC
theorem aaP : ∀ i, ap DY (aqR i) := rb (cd IH) (cx pg)
theorem I8 : al5 x6 x7 H =
 some (x7, H) :=
 (by kernel_rfl)
theorem acD : S3 x0 x1 x2 x6 x7 x8 H =
 (ai .other .add x8 (vi 1)).bind fun a =>
 Mc x0 x1 x2 x6 x7 a H :=
 (by kernel_rfl)
theorem SW : Mb x0 x1 x2 x6 x7 x8 x9 H =
 (ai .other .add x9 (vi 1)).bind fun a =>
 Dq x0 x1 x2 x6 x7 x8 a H :=
 (by kernel_rfl)
theorem SZ : XB x0 x1 x2 x6 x7 x8 x9 x10 H =
 (ai .other .add x10 (vi 1)).bind fun a =>
 Ds x0 x1 x2 x6 x7 x8 x9 a H :=
 (by kernel_rfl)
theorem SY : XA x0 x1 x2 x6 x7 x8 x9 x10 H =
 ld [.i 1 x9] x0 H fun c =>
 (FF bw [c, x1] H).bind fun a =>
 z5 1 1 [(vi 0)] [(0, a.1)] a.2 fun d e =>
 (eJ 1 8 x7 d e).bind fun b =>
 XB x0 x1 x2 x6 b.1 x8 x9 x10 b.2 :=
 (pt rfl 0 IH (bt rfl (gA [1, 1, 0, 1, 4, 5, 1, 0, 4, 1, 4, 5, 1, 0, 4, 1, 1, 4, 5, 1, 0, 4]) 5 aaP (by kernel_rfl)))
theorem yh : t6 x0 x1 x2 x6 x7 x8 x9 H = Mb x0 x1 x2 x6 x7 x8 x9 H :=
 (by kernel_rfl)
theorem Gg : Ds x0 x1 x2 x6 x7 x8 x9 x10 H =
 ld [.i 1 x9] x0 H fun c =>
 (FF bw [c, (vi 7)] H).bind fun b =>
 (ai .other .rem x8 (vi 3)).bind fun d =>
 (ai .other .mul b.1 d).bind fun e =>
 (ai .other .lss x10 e).bind fun a =>
 (gV a true x7).bind fun f =>
 (Ab (yv a) true (fy f some) (some undef)).bind fun g =>
 (gV a true x2).bind fun j =>
 (gB a true (ai .other .lss g j)).bind fun k =>
 (aL a k (vb false)).bind fun l =>
 av l
 (XA x0 x1 x2 x6 x7 x8 x9 x10 b.2)
 (t6 x0 x1 x2 x6 x7 x8 x9 b.2) :=
 uW rfl tS (pt rfl 0 aaO (by kernel_rfl))
theorem SX : Xz x0 x1 x2 x6 x7 x8 x9 x10 H =
 Ds x0 x1 x2 x6 x7 x8 x9 x10 H :=
 (bt rfl (gA [1, 1, 0, 1, 4, 5, 1, 0, 4, 1, 4, 5, 1, 0, 4, 1, 1, 4]) 4 pg (li rfl (gA [1, 1, 0, 1, 4, 5, 1, 0, 4, 1, 4, 5, 1, 0, 4, 1, 1, 4, 5]) tS (by kernel_rfl)))
theorem SV : Xy x0 x1 x2 x6 x7 x8 x9 H =
 ld [.i 1 x9] x0 H fun c =>
 (FF bw [c, x1] H).bind fun a =>
 z5 1 1 [(vi 0)] [(0, a.1)] a.2 fun d e =>
 (eJ 1 8 x7 d e).bind fun b =>
 Xz x0 x1 x2 x6 b.1 x8 x9 (vi 0) b.2 :=
 (pt rfl 0 tR (bt rfl (gA [1, 1, 0, 1, 4, 5, 1, 0, 4, 1, 4, 5, 1, 0, 4]) 3 zI (pt rfl 1 aaN (by kernel_rfl))))
theorem Ma : Ac x0 x1 x2 x6 x7 x8 H = S3 x0 x1 x2 x6 x7 x8 H :=
 (by kernel_rfl)
theorem SU : Dq x0 x1 x2 x6 x7 x8 x9 H =
 fy x0 fun b =>
 (ai .other .lss x9 b).bind fun a =>
 (gV a true x7).bind fun c =>
 (Ab (yv a) true (fy c some) (some undef)).bind fun d =>
 (gV a true x2).bind fun e =>
 (gB a true (ai .other .lss d e)).bind fun f =>
 (aL a f (vb false)).bind fun g =>
 av g
 (Xy x0 x1 x2 x6 x7 x8 x9 H)
 (Ac x0 x1 x2 x6 x7 x8 H) :=
 uW rfl tQ (pt rfl 0 aaM (by kernel_rfl))
theorem acE : al8 x0 x1 x2 x6 x7 x8 x9 H =
 Dq x0 x1 x2 x6 x7 x8 x9 H :=
 (bt rfl (gA [1, 1, 0, 1, 4, 5, 1, 0, 4, 1, 4]) 2 pf (li rfl (gA [1, 1, 0, 1, 4, 5, 1, 0, 4, 1, 4, 5]) tQ (by kernel_rfl)))
theorem acC : al7 x0 x1 x2 x6 x7 x8 H =
 al8 x0 x1 x2 x6 x7 x8 (vi 0) H :=
 (pt rfl 0 xg (bt rfl (gA [1, 1, 0, 1, 4, 5, 1, 0, 4]) 1 Fm (pt rfl 0 ah3 (by kernel_rfl))))
theorem Bp : Pd x6 x7 H = al5 x6 x7 H :=
 (by kernel_rfl)
theorem I9 : Mc x0 x1 x2 x6 x7 x8 H =
 (ai .other .lss x8 (vi 40)).bind fun a =>
 (gV a true x0).bind fun b =>
 (Ab (yv a) true (fy b some) (some undef)).bind fun c =>
 (gB a true (ai .other .gtr c (vi 0))).bind fun d =>
 (aL a d (vb false)).bind fun e =>
 av e
 (al7 x0 x1 x2 x6 x7 x8 H)
 (Pd x6 x7 H) :=
 uW rfl xf (pt rfl 0 ah1 (by kernel_rfl))
theorem acB : al6 x0 x1 x2 x6 x7 x8 H =
 Mc x0 x1 x2 x6 x7 x8 H :=
 (bt rfl (gA [1, 1, 0, 1, 4]) 0 r7 (li rfl (gA [1, 1, 0, 1, 4, 5]) xf (by kernel_rfl)))
theorem acA : al4 x0 x1 x2 x6 x7 H =
 al6 x0 x1 x2 x6 x7 (vi 0) H :=
 (pt rfl 0 Fl (pt rfl 0 ahZ (by kernel_rfl)))
noncomputable def pMa : OV := ba PP GG FF (gA []) (ls [x0, x1, x2] 66) H jx bv jx
theorem avB {r : Value × AH} (h : (
 al4 x0 x1 x2 (.slice none 0 0) (.slice none 0 0) H) = some r) : FF O8 [x0, x1, x2] H = some r :=
 fo (t := pMa x0 x1 x2 H) Tryz.func17 (by kernel_rfl) (Eq.trans (pt rfl 1 ahX (by kernel_rfl)) h)
theorem xY {r : Value × AH} (h : (
 ld [.n, .f 1] x0 H fun b =>
 (FF alP [b] H).bind fun a =>
 some (a.1, a.2)) = some r) : FF ia [x0] H = some r :=
 fo Tryz.func18 (by kernel_rfl) h
noncomputable def ah6 (p : List Nat) : Code := Code.sub (bK Tryz.f19) p
noncomputable def Fo : KK := dK PP (Tryz.f19).results.toList
noncomputable def ah7 : KK := CQ (ah6 [1, 1, 1]) Fo bv Fo
noncomputable def xG : OV := ah7 (ls [u, x1, u, u, x4, u, u, x7, x8, x9] 26) H
noncomputable def ah9 : KK := CQ (ah6 [1, 1, 1, 1]) Fo bv Fo
noncomputable def qr : OV := ah9 (ls [u, u, u, u, u, u, u, u, x8, x9] 26) H
theorem Db : ap 68719476479 Fo := rf
theorem ah8 : ap 68719475821 ah7 := rc Db aw Db
theorem aiA : ap 68719475967 ah9 := rc Db aw Db
theorem qU : qr x8 x9 H =
 (ax 3 x9 H).bind fun b =>
 (cJ 3 x8 b H).bind fun a =>
 (ax 3 x8 a).bind fun c => some (c, a) :=
 (by kernel_rfl)
theorem qT : xG x1 x4 x7 x8 x9 H =
 ld [.f 0] x7 H fun c =>
 (ai .other .eql c (vi 3)).bind fun d =>
 av d
 (ld [.f 0] x4 H fun e =>
 (ax 4 x7 H).bind fun g =>
 (FF z7 [e, x1, g] H).bind fun a =>
 st 1 [.f 0] x9 a.1 a.2 fun i =>
 qr x8 x9 i)
 (ld [.f 0] x4 H fun j =>
 (ax 4 x7 H).bind fun k =>
 (FF z9 [j, x1, k] H).bind fun b =>
 st 1 [.f 1] x9 b.1 b.2 fun l =>
 qr x8 x9 l) :=
 (pt rfl 0 aiA (by kernel_rfl))
noncomputable def ab0 : OV := ba PP GG FF (ah6 []) (ls [x0, x1, x2, x3] 32) H Fo bv Fo
theorem LU {r : Value × AH} (h : (
 aQ (Value.cells x0).toList H fun a i =>
 aQ (Value.cells x3).toList i fun c j =>
 aQ [(.pointer none), (.pointer none), (.pointer none)] j fun k d =>
 (ax 2 a d).bind fun l =>
 (FF kw [l, x1, x2] d).bind fun b =>
 ld [.f 1] a b.2 fun m =>
 (ax 4 c b.2).bind fun n =>
 (FF kQ [m, x1, n] b.2).bind fun e =>
 hJ [(0, 1), (1, 1), (2, 1)] [(.pointer none), (.pointer none), (.pointer none)] [(2, e.1)] fun o =>
 aQ [(.pointer none), (.pointer none), (.pointer none)] e.2 fun g p =>
 (cJ 3 g o p).bind fun q =>
 xG x1 a c k g q) = some r) : FF sI [x0, x1, x2, x3] H = some r :=
 fo (t := ab0 x0 x1 x2 x3 H) Tryz.func19 (by kernel_rfl) (Eq.trans (pt rfl 2 ah8 (by kernel_rfl)) h)
end
section
variable (x0 x1 x2 x3 x4 x5 x6 x7 x8 x9 x10 x11 x13 x14 x15 x16 x35 x48 x51 x93 x97 x112 x133 x151 x171 x186 x197 x242 x248 x272 x283 x297 : Value) (H : AH)
noncomputable def WO (p : List Nat) : Code := Code.sub (bK Tryz.f20) p
noncomputable def Fp : KK := dK PP (Tryz.f20).results.toList
noncomputable def aiB : KK := CQ (WO [1, 1, 1]) Fp bv Fp
noncomputable def pC : OV := aiB (ls [u, u, x2, x3, x4, u, x6, x7, x8, x9, x10, x11] 62) H
noncomputable def R9 : KK := CQ (WO [1, 1, 1, 1]) Fp bv Fp
noncomputable def auS : KK := dD afR R9
noncomputable def hF : OV := R9 (ls [u, u, u, x3, x4, u, x6, x7, x8, x9, x10, x11] 62) H
noncomputable def aq2 : KX := BX 0 auS bv
theorem Dc : ap 18889465931478580854335 Fp := rf
theorem aiC : ap 18889465931478580850723 aiB := rc Dc aw Dc
theorem Oz : ap afR R9 := rc Dc aw Dc
theorem aa5 : ∀ i, ap afR (aq2 i) := rb (cd Oz) aw
theorem uk : hF x3 x4 x6 x7 x8 x9 x10 x11 H =
 (ax 4 x9 H).bind fun m =>
 (ai .bool .eql x10 x11).bind fun d =>
 (gB d true (ax 4 x9 H)).bind fun o =>
 f0 d true  [.f 2] x3 H fun p =>
 (gV d true x11).bind fun q =>
 (gE d true H (FF qy [p, q] H)).bind fun e =>
 bX (ax 4 x9 e.2) (ax 4 x9 H) <|
 bX (ax 4 x9 e.2) (ax 4 x9 H) <|
 (gE d true e.2 (FF qw [o, e.1] e.2)).bind fun c =>
 bX (ax 4 x9 c.2) (ax 4 x9 H) <|
 (aL d c.1 (vb false)).bind fun a =>
 f0 a true  [.f 0] x4 c.2 fun s =>
 f0 a true  [.n, .f 0] s c.2 fun t =>
 (gE a true c.2 (FF kO [t] c.2)).bind fun b =>
 bX (ax 4 x9 b.2) (ax 4 x9 H) <|
 HK a true  [.f 1] x4 fun g =>
 (gB a true (ar g b.2)).bind fun w =>
 bX (ar g c.2) (ar g b.2) <|
 HK a true  [.n, .f 5] w fun i =>
 (gB a true (ar i b.2)).bind fun y =>
 bX (ar i c.2) (ar i b.2) <|
 HK a true  [.n, .f 2] y fun j =>
 (gB a true (ar j b.2)).bind fun k =>
 bX (ar j c.2) (ar j b.2) <|
 (Ab (yv a) true (fy k some) (some undef)).bind fun z =>
 bX (arH k) (arH k) <|
 (gB a true (ai .other .eql b.1 z)).bind fun A =>
 (aL a A (vb false)).bind fun B =>
 (cJ 4 x6 m b.2).bind fun l =>
 bX (ar g l) (ar g b.2) <|
 bX (ar i l) (ar i b.2) <|
 bX (ar j l) (ar j b.2) <|
 bX (arH k) (arH k) <|
 (ax 4 x6 l).bind fun C => some (Value.tuple #[C, x11, B], l) :=
 (by kernel_rfl)
theorem lP : pC x2 x3 x4 x6 x7 x8 x9 x10 x11 H =
 ld [.f 0] x3 H fun j =>
 (ai .ptr .neq j (.pointer none)).bind fun k =>
 av k
 (ld [.f 0] x3 H fun l =>
 (FF z6 [l, x2] H).bind fun a =>
 (ag a.1 0).bind fun m =>
 (ag a.1 1).bind fun n =>
 (cJ 4 x9 m a.2).bind fun c =>
 ld [.f 2] x3 c fun o =>
 (FF fh [o, x2] c).bind fun d =>
 hF x3 x4 x6 x7 x8 x9 n d.1 d.2)
 (ld [.f 1] x3 H fun p =>
 (ai .ptr .neq p (.pointer none)).bind fun q =>
 av q
 (ld [.f 1] x3 H fun s =>
 (FF nk [s, x2] H).bind fun b =>
 (ag b.1 0).bind fun t =>
 (ag b.1 1).bind fun w =>
 (cJ 4 x9 t b.2).bind fun e =>
 ld [.f 2] x3 e fun y =>
 (FF bm [y, x2] e).bind fun g =>
 hF x3 x4 x6 x7 x8 x9 w g.1 g.2)
 ((ax 4 x9 H).bind fun z =>
 (cJ 4 x6 z H).bind fun i =>
 (ax 4 x6 i).bind fun A => some (Value.tuple #[A, (vb false), (vb false)], i))) :=
 (pt rfl 0 Oz (bt rfl (WO [1, 1, 1, 0, 4]) 0 aa5 (by kernel_rfl)))
noncomputable def HM : OV := ba PP GG FF (WO []) (ls [x0, x1, x2] 71) H Fp bv Fp
theorem pD {r : Value × AH} (h : (
 aQ (Value.cells x0).toList H fun a b =>
 aQ (Value.cells x1).toList b fun c d =>
 aQ [(vi 0), (.slice none 0 0), (vi 0), (vw 0)] d fun e f =>
 aQ [(vi 0), (.slice none 0 0), (vi 0), (vw 0)] f fun g i =>
 pC x2 a c e (vb false) (vb false) g (vb false) (vb false) i) = some r) : FF lH [x0, x1, x2] H = some r :=
 fo (t := HM x0 x1 x2 H) Tryz.func20 (by kernel_rfl) (Eq.trans (pt rfl 2 aiC (by kernel_rfl)) h)
theorem uq {r : Value × AH} (h : (
 (FF ge [x0, x1] H).bind fun a =>
 (ot .not a.1).bind fun b =>
 av b
 (some ((.pointer none), a.2))
 (ld [.n, .f 10] x0 a.2 fun c =>
 ld [.i 4 x1, .f 3] c a.2 fun d =>
 some (d, a.2))) = some r) : FF ef [x0, x1] H = some r :=
 fo Tryz.func21 (by kernel_rfl) h
noncomputable def uL (p : List Nat) : Code := Code.sub (bK Tryz.f25) p
noncomputable def sa : KK := dK PP (Tryz.f25).results.toList
noncomputable def aiF : KK := CQ (uL [1, 1, 1, 1]) sa bv sa
noncomputable def al9 : OV := aiF (ls [u, u, x2, x3, x4] 25) H
noncomputable def Sa : KK := CQ (uL [1, 1, 1, 1, 1]) sa bv sa
noncomputable def aiD : KK := dD 1073741803 Sa
noncomputable def amA : OV := Sa (ls [u, u, x2, u, x4] 25) H
noncomputable def aiH : KK := CQ (uL [1, 1, 1, 1, 0, 1]) aiD bv sa
noncomputable def amB : OV := aiH (ls [u, u, x2, u, x4, u, u, u, u, u, u, u, u, u, x14, x15, x16] 13) H
noncomputable def Sd : KX := BX 0 aiD bv
noncomputable def LG : KX := nJ 1073741803 Sd
noncomputable def Sb : KK := uz (uL [1, 1, 1, 1, 0, 1, 4, 5]) LG sa
noncomputable def aiE : KK := dD D6 Sb
noncomputable def Md : OV := Sb (ls [u, u, x2, u, x4, u, u, u, u, u, u, u, u, u, x14, x15, x16] 13) H
noncomputable def aiJ : KK := CQ (uL [1, 1, 1, 1, 0, 1, 4, 5, 1, 1]) aiE LG sa
noncomputable def amC : OV := aiJ (ls [u, u, x2, u, x4, u, u, u, u, u, u, u, u, u, x14, x15, x16] 13) H
noncomputable def Sc : KK := CQ (uL [1, 1, 1, 1, 0, 1, 4, 5, 1, 1, 1]) aiE LG sa
noncomputable def auT : KK := dD D6 Sc
noncomputable def amD : OV := Sc (ls [u, u, x2, u, x4, u, u, u, u, u, u, u, u, u, x14, x15, x16] 13) H
noncomputable def auU : KX := BX 1 auT LG
noncomputable def Pg : OV := Sd 0 (ls [u, u, x2, u, x4] 25) H
theorem nO : ap 1073741819 sa := rf
theorem aiG : ap 1073741795 aiF := rc nO aw nO
theorem Fq : ap 1073741803 Sa := rc nO aw nO
theorem aiI : ap D6 aiH := rc (cd Fq) aw nO
theorem sc : ∀ i, ap 1073741803 (Sd i) := rb (cd Fq) aw
theorem xn : ap D6 Sb := rl (cx sc) nO
theorem aiK : ap D6 aiJ := rc (cd xn) (cx sc) nO
theorem OA : ap D6 Sc := rc (cd xn) (cx sc) nO
theorem aiL : ∀ i, ap D6 (auU i) := rb (cd OA) (cx sc)
theorem acG : amA x2 x4 H =
 some (x4, H) :=
 (by kernel_rfl)
theorem acJ : amD x2 x4 x14 x15 x16 H =
 (ai .other .add x16 (vi 1)).bind fun a =>
 Md x2 x4 x14 x15 a H :=
 (by kernel_rfl)
theorem acI : amC x2 x4 x14 x15 x16 H =
 ldN 7 [.i 7 x16] x14 H fun g =>
 aQ [(vi 0), (vi 0), (vi 0), (vi 0), (.slice none 0 0), (vi 0), (vw 0)] H fun a j =>
 (cJ 7 a g j).bind fun b =>
 ldN 4 [.f 3] a b fun k =>
 (FF oc [k] b).bind fun c =>
 st 4 [.f 3] a c.1 c.2 fun d =>
 (ax 7 a d).bind fun l =>
 z5 1 7 [(vi 0), (vi 0), (vi 0), (vi 0), (.slice none 0 0), (vi 0), (vw 0)] [(0, l)] d fun m n =>
 (eJ 7 72 x4 m n).bind fun e =>
 amD x2 e.1 x14 x15 x16 e.2 :=
 (pt rfl 0 OA (bt rfl (uL [1, 1, 1, 1, 0, 1, 4, 5, 1, 1, 0, 4]) 1 aiL (by kernel_rfl)))
theorem Ph : Pg x2 x4 H = amA x2 x4 H :=
 (by kernel_rfl)
theorem Ja : Md x2 x4 x14 x15 x16 H =
 (ai .other .lss x16 x15).bind fun a =>
 av a
 (amC x2 x4 x14 x15 x16 H)
 (Pg x2 x4 H) :=
 uW rfl xn (pt rfl 1 aiK (by kernel_rfl))
theorem acH : amB x2 x4 x14 x15 x16 H =
 Md x2 x4 x14 x15 x16 H :=
 (bt rfl (uL [1, 1, 1, 1, 0, 1, 4]) 0 sc (li rfl (uL [1, 1, 1, 1, 0, 1, 4, 5]) xn (by kernel_rfl)))
theorem acF : al9 x2 x3 x4 H =
 fy x3 fun a =>
 amB x2 x4 x3 a (vi 0) H :=
 (pt rfl 0 Fq (pt rfl 0 aiI (by kernel_rfl)))
noncomputable def pPP : OV := ba PP GG FF (uL []) (ls [x0] 29) H sa bv sa
theorem avC {r : Value × AH} (h : (
 ld [.n, .f 12] x0 H fun b =>
 (FF alQ [b] H).bind fun a =>
 (FF alS [a.1, (.func (.func dQ) #[] #[])] a.2).bind fun c =>
 al9 (.slice none 0 0) a.1 (.slice none 0 0) c.2) = some r) : FF alK [x0] H = some r :=
 fo (t := pPP x0 H) Tryz.func25 (by kernel_rfl) (Eq.trans (pt rfl 3 aiG (by kernel_rfl)) h)
theorem uy {r : Value × AH} (h : (
 ad [.n, .f 0] x0 fun b =>
 (ar b H).bind fun d =>
 (FF jN [x2, x3] H).bind fun c =>
 bX (ar b c.2) (ar b H) <|
 (FF dw [d, x1, c.1] c.2).bind fun a =>
 (ai .other .eql a.1 (vw 0)).bind fun e =>
 av e
 (some (Value.tuple #[(vi 0), (vi 0), (vb false)], a.2))
 ((ai .other .shr a.1 (vw 32)).bind fun g =>
 (cf (some .i64) g).bind fun i =>
 (ai .other .sub i (vi 1)).bind fun j =>
 (ai .other .and a.1 (vw 4294967295)).bind fun k =>
 (cf (some .i64) k).bind fun l =>
 some (Value.tuple #[j, l, (vb true)], a.2))) = some r) : FF gf [x0, x1, x2, x3] H = some r :=
 fo Tryz.func27 (by kernel_rfl) h
theorem vN {r : Value × AH} (h : (
 aQ [(vi 0), (vi 0), (vw 0)] H fun a g =>
 (FF ge [x0, x2] g).bind fun b =>
 (ot .not b.1).bind fun j =>
 av j
 (hJ [(0, 1), (1, 1), (2, 1)] [(vi 0), (vi 0), (vw 0)] [] fun k =>
 (cJ 3 a k b.2).bind fun d =>
 (ax 3 a d).bind fun l => some (l, d))
 (ld [.n, .f 0] x0 b.2 fun m =>
 hJ [(0, 1), (1, 1), (2, 1)] [(vi 0), (vi 0), (vi 0)] [(0, (vi 13)), (1, x2)] fun o =>
 (FF na [m, x1, o] b.2).bind fun c =>
 ld [.n, .f 10] x0 c.2 fun p =>
 ldN 3 [.i 4 x2, .f 0] p c.2 fun q =>
 (cJ 3 a q c.2).bind fun e =>
 (ax 3 a e).bind fun s => some (s, e))) = some r) : FF jJ [x0, x1, x2] H = some r :=
 fo Tryz.func28 (by kernel_rfl) h
theorem ti {r : Value × AH} (h : (
 ld [.n, .f 1] x0 H fun a =>
 (ai .other .rem x1 a).bind fun b =>
 ld [.n, .f 1] x0 H fun c =>
 (ai .other .add b c).bind fun d =>
 ld [.n, .f 1] x0 H fun e =>
 (ai .other .rem d e).bind fun g =>
 some (g, H)) = some r) : FF fD [x0, x1] H = some r :=
 fo Tryz.func29 (by kernel_rfl) h
theorem ux {r : Value × AH} (h : (
 ad [.n, .f 0] x0 fun a =>
 (ar a H).bind fun d =>
 (FF kT [x2] H).bind fun b =>
 bX (ar a b.2) (ar a H) <|
 (FF fO [d, x1, b.1, (vw 0), (vw 1)] b.2).bind fun c =>
 some (c.1, c.2)) = some r) : FF eu [x0, x1, x2] H = some r :=
 fo Tryz.func30 (by kernel_rfl) h
noncomputable def aiM (p : List Nat) : Code := Code.sub (bK Tryz.f31) p
noncomputable def Fs : KK := dK PP (Tryz.f31).results.toList
noncomputable def aiN : KK := CQ (aiM [1, 1]) Fs bv Fs
noncomputable def sV : OV := aiN (ls [u, x1, x2, x3] 29) H
noncomputable def aiP : KK := CQ (aiM [1, 1, 1]) Fs bv Fs
noncomputable def jT : OV := aiP (ls [u, x1, x2, x3] 29) H
theorem De : ap 8589934587 Fs := rf
theorem aiO : ap 8589934577 aiN := rc De aw De
theorem aiQ : ap 8589934577 aiP := rc De aw De
theorem yo : jT x1 x2 x3 H =
 ld [.f 0] x1 H fun k =>
 (FF bw [k, (vi 4)] H).bind fun b =>
 (ai .other .add (vi 1) b.1).bind fun l =>
 ad [.f 1] x1 fun g =>
 (ar g b.2).bind fun m =>
 bX (ar g H) (ar g b.2) <|
 (FF bw [m, (vi 4)] b.2).bind fun c =>
 (ai .other .add (vi 1) c.1).bind fun n =>
 ad [.f 2] x1 fun e =>
 (ar e c.2).bind fun o =>
 bX (ar e H) (ar e c.2) <|
 bX (ar e b.2) (ar e c.2) <|
 (FF bw [o, (vi 6)] c.2).bind fun d =>
 (ai .other .add (vi 1) d.1).bind fun p =>
 ad [.f 3] x1 fun a =>
 (ar a d.2).bind fun q =>
 bX (ar a H) (ar a d.2) <|
 bX (ar a b.2) (ar a d.2) <|
 bX (ar a c.2) (ar a d.2) <|
 (FF bw [q, (vi 12)] d.2).bind fun i =>
 hJ [(0, 1), (1, 1), (2, 1), (3, 1), (4, 1)] [(vi 0), (vi 0), (vi 0), (vi 0), (vw 0)] [(0, l), (1, n), (2, p), (3, i.1), (4, x3)] fun s =>
 (cJ 5 x2 s i.2).bind fun j =>
 (ax 5 x2 j).bind fun t => some (t, j) :=
 (by kernel_rfl)
theorem yn : sV x1 x2 x3 H =
 ld [.f 4] x1 H fun a =>
 (ai .other .rem a (vw 4)).bind fun b =>
 (ai .other .eql b (vw 3)).bind fun c =>
 av c
 (ld [.f 4] x1 H fun d =>
 (ai .other .rem d (vw 4611686018427387904)).bind fun e =>
 (ai .other .add (vw 1) e).bind fun g =>
 jT x1 x2 g H)
 (jT x1 x2 x3 H) :=
 (pt rfl 0 aiQ (by kernel_rfl))
noncomputable def Pn : OV := ba PP GG FF (aiM []) (ls [x0] 32) H Fs bv Fs
theorem Gk {r : Value × AH} (h : (
 aQ (Value.cells x0).toList H fun a c =>
 aQ [(vi 0), (vi 0), (vi 0), (vi 0), (vw 0)] c fun d b =>
 ld [.f 4] a b fun e =>
 (ai .other .rem e (vw 5000)).bind fun g =>
 (ai .other .add (vw 1) g).bind fun i =>
 sV a d i b) = some r) : FF oQ [x0] H = some r :=
 fo (t := Pn x0 H) Tryz.func31 (by kernel_rfl) (Eq.trans (pt rfl 1 aiO (by kernel_rfl)) h)
theorem Me {r : Value × AH} (h : (
 aQ (Value.cells x0).toList H fun a m =>
 (ax 5 a m).bind fun n =>
 (FF oP [n] m).bind fun j =>
 (ot .not j.1).bind fun o =>
 av o
 (some (Value.tuple #[(.pointer none), (vi 1)], j.2))
 ((FF z8 [] j.2).bind fun b =>
 ld [.f 0] a b.2 fun p =>
 (FF sH [b.1, p] b.2).bind fun c =>
 ad [.f 0] a fun k =>
 (ar k c.2).bind fun q =>
 bX (ar k b.2) (ar k c.2) <|
 ad [.f 1] a fun l =>
 (ar l c.2).bind fun s =>
 bX (ar l b.2) (ar l c.2) <|
 (FF sO [b.1, q, s] c.2).bind fun d =>
 ad [.f 2] a fun i =>
 (ar i d.2).bind fun t =>
 bX (ar i b.2) (ar i d.2) <|
 bX (ar i c.2) (ar i d.2) <|
 (FF vH [b.1, t] d.2).bind fun e =>
 (ax 5 a e.2).bind fun w =>
 bX (ax 5 a b.2) (ax 5 a e.2) <|
 bX (ax 5 a c.2) (ax 5 a e.2) <|
 bX (ax 5 a d.2) (ax 5 a e.2) <|
 (FF vC [w] e.2).bind fun g =>
 (ax 5 a g.2).bind fun y =>
 bX (ax 5 a b.2) (ax 5 a g.2) <|
 bX (ax 5 a c.2) (ax 5 a g.2) <|
 bX (ax 5 a d.2) (ax 5 a g.2) <|
 bX (ax 5 a e.2) (ax 5 a g.2) <|
 HO g.2 fun z A =>
 hJ [(0, 1), (1, 1), (2, 1), (3, 1), (4, 1), (5, 5), (10, 1), (11, 1), (12, 1)] [(.pointer none), (.pointer none), (.pointer none), (.pointer none), (.pointer none), (vi 0), (vi 0), (vi 0), (vi 0), (vw 0), (.slice none 0 0), (.map none), (.slice none 0 0)] [(0, b.1), (1, c.1), (2, d.1), (3, e.1), (4, g.1), (5, y), (7, z)] fun B =>
 aQ (Value.cells B).toList A fun C D =>
 some (Value.tuple #[C, (vi 0)], D))) = some r) : FF sJ [x0] H = some r :=
 fo Tryz.func32 (by kernel_rfl) h
theorem Cz {r : Value × AH} (h : (
 aQ (Value.cells x0).toList H fun a m =>
 hJ [(0, 1), (1, 1), (2, 1)] [(.slice none 0 0), (.slice none 0 0), (.slice none 0 0)] [] fun n =>
 aQ (Value.cells n).toList m fun i b =>
 (ax 5 a b).bind fun o =>
 ld [.f 0] a b fun p =>
 (FF ng [i, p] b).bind fun c =>
 bX (ax 5 a c.2) (ax 5 a b) <|
 ad [.f 0] a fun j =>
 (ar j c.2).bind fun q =>
 bX (ar j b) (ar j c.2) <|
 ad [.f 1] a fun k =>
 (ar k c.2).bind fun s =>
 bX (ar k b) (ar k c.2) <|
 (FF ni [i, q, s] c.2).bind fun d =>
 bX (ax 5 a d.2) (ax 5 a b) <|
 ad [.f 2] a fun g =>
 (ar g d.2).bind fun t =>
 bX (ar g b) (ar g d.2) <|
 bX (ar g c.2) (ar g d.2) <|
 (FF oS [i, t] d.2).bind fun e =>
 bX (ax 5 a e.2) (ax 5 a b) <|
 (ax 5 a e.2).bind fun w =>
 bX (ax 5 a b) (ax 5 a e.2) <|
 bX (ax 5 a c.2) (ax 5 a e.2) <|
 bX (ax 5 a d.2) (ax 5 a e.2) <|
 (FF oR [w] e.2).bind fun l =>
 bX (ax 5 a l.2) (ax 5 a b) <|
 hJ [(0, 5), (5, 1), (6, 1), (7, 1), (8, 1), (9, 1), (10, 1), (11, 1), (12, 1), (13, 1)] [(vi 0), (vi 0), (vi 0), (vi 0), (vw 0), (.pointer none), (.pointer none), (.pointer none), (.pointer none), (.pointer none), (.slice none 0 0), (.slice none 0 0), (.slice none 0 0), (.slice none 0 0)] [(0, o), (1, i), (2, c.1), (3, d.1), (4, e.1), (5, l.1)] fun y =>
 aQ (Value.cells y).toList l.2 fun z A =>
 some (z, A)) = some r) : FF nh [x0] H = some r :=
 fo Tryz.func33 (by kernel_rfl) h
theorem BW {r : Value × AH} (h : (
 aQ (Value.cells x0).toList H fun i l =>
 ld [.f 1] i l fun s =>
 ldN 5 [.n, .f 0] s l fun t =>
 aQ [(vi 0), (vi 0), (vi 0), (vi 0), (vw 0)] l fun g w =>
 (cJ 5 g t w).bind fun p =>
 ld [.f 4] g p fun y =>
 (FF kP [y, x2] p).bind fun m =>
 (ag m.1 0).bind fun z =>
 (ag m.1 1).bind fun a3 =>
 hJ [(0, 1), (1, 1), (2, 1)] [(vi 0), (vi 0), (vw 0)] [(0, x1), (1, x3), (2, z)] fun A =>
 aQ [(vi 0), (vi 0), (vw 0)] m.2 fun j B =>
 (cJ 3 j A B).bind fun k =>
 ld [.f 0] i k fun C =>
 (ax 3 j k).bind fun D =>
 (FF ee [C, (vi 0), D] k).bind fun d =>
 ad [.f 1] i fun o =>
 (ar o d.2).bind fun E =>
 bX (ar o k) (ar o d.2) <|
 (ax 3 j d.2).bind fun G =>
 bX (ax 3 j k) (ax 3 j d.2) <|
 (FF ic [E, (vi 0), G] d.2).bind fun c =>
 (ai .other .eql d.1 c.1).bind fun a =>
 f0 a true  [.f 0] i c.2 fun I =>
 f0 a true  [.n, .f 2] I c.2 fun J =>
 (gV a true x1).bind fun K =>
 f0 a true  [.f 0] g c.2 fun L =>
 (gB a true (ai .other .rem K L)).bind fun M =>
 (gV a true x1).bind fun N =>
 f0 a true  [.f 0] g c.2 fun O =>
 (gB a true (ai .other .quo N O)).bind fun P =>
 (gV a true x1).bind fun Q =>
 (gV a true d.1).bind fun R =>
 (gE a true c.2 (FF gG [J, (vi 0), M, P, Q, R] c.2)).bind fun e =>
 (aL a e.1 (vb false)).bind fun b =>
 f0 b true  [.f 1] i e.2 fun S =>
 f0 b true  [.n, .f 7] S e.2 fun T =>
 (gV b true x1).bind fun U =>
 f0 b true  [.f 0] g e.2 fun V =>
 (gB b true (ai .other .rem U V)).bind fun W =>
 (gV b true x1).bind fun X =>
 f0 b true  [.f 0] g e.2 fun Y =>
 (gB b true (ai .other .quo X Y)).bind fun Z =>
 (gV b true x1).bind fun a0 =>
 (gV b true c.1).bind fun a1 =>
 (gE b true e.2 (FF iZ [T, (vi 0), W, Z, a0, a1] e.2)).bind fun q =>
 (aL b q.1 (vb false)).bind fun a2 =>
 some (a2, q.2)) = some r) : FF m8 [x0, x1, x2, x3] H = some r :=
 fo Tryz.func34 (by kernel_rfl) h
noncomputable def qQ (p : List Nat) : Code := Code.sub (bK Tryz.f35) p
noncomputable def sd : KK := dK PP (Tryz.f35).results.toList
noncomputable def aiR : KK := CQ (qQ [1, 1, 1]) sd bv sd
noncomputable def yj : OV := aiR (ls [u, x1, x2, x3] 61) H
noncomputable def Se : KK := CQ (qQ [1, 1, 1, 1]) sd bv sd
noncomputable def Ft : KK := dD UZ Se
noncomputable def du : OV := Se (ls [u, u, x2, x3] 61) H
noncomputable def aiT : KK := CQ (qQ [1, 1, 1, 0, 1]) Ft bv sd
noncomputable def yl : OV := aiT (ls [u, x1, x2, x3, u, u, u, u, u, u, u, u, u, u, u, x15] 49) H
noncomputable def aiX : KX := BX 0 Ft bv
noncomputable def Sf : KX := nJ UZ aiX
noncomputable def aiV : KK := CQ (qQ [1, 1, 1, 0, 1, 4, 1]) Ft Sf sd
noncomputable def ym : OV := aiV (ls [u, x1, x2, x3, u, u, u, u, u, u, u, u, u, u, u, x15, u, u, u, u, u, u, u, u, u, u, u, u, u, u, u, u, u, u, u, x35] 29) H
noncomputable def WT : KK := CQ (qQ [1, 1, 1, 0, 1, 4, 1, 3, 1]) Ft Sf sd
noncomputable def uZ : OV := WT (ls [u, x1, x2, x3, u, u, u, u, u, u, u, u, u, u, u, x15, u, u, u, u, u, u, u, u, u, u, u, u, u, u, u, u, u, u, u, u, u, u, u, u, u, u, u, u, u, u, u, u, x48] 16) H
noncomputable def WU : KK := CQ (qQ [1, 1, 1, 0, 1, 4, 1, 3, 1, 3, 1]) Ft Sf sd
noncomputable def kU : OV := WU (ls [u, x1, x2, x3, u, u, u, u, u, u, u, u, u, u, u, x15, u, u, u, u, u, u, u, u, u, u, u, u, u, u, u, u, u, u, u, u, u, u, u, u, u, u, u, u, u, u, u, u, u, u, u, x51] 13) H
theorem nP : ap 36893488147419103227 sd := rf
theorem aiS : ap 36893488147419103217 aiR := rc nP aw nP
theorem pn : ap UZ Se := rc nP aw nP
theorem aiU : ap 36893488147419070449 aiT := rc (cd pn) aw nP
theorem xo : ∀ i, ap UZ (aiX i) := rb (cd pn) aw
theorem aiW : ap 36893488113059332081 aiV := rc (cd pn) (cx xo) nP
theorem abB : ap 36893206672442359793 WT := rc (cd pn) (cx xo) nP
theorem abC : ap 36891236347605385201 WU := rc (cd pn) (cx xo) nP
theorem Cm : du x2 x3 H =
 (ax 4 x3 H).bind fun b =>
 (cJ 4 x2 b H).bind fun a =>
 (ax 4 x2 a).bind fun c => some (c, a) :=
 (by kernel_rfl)
theorem Ae : kU x1 x2 x3 x15 x51 H =
 av x51
 (hJ [(0, 1), (1, 1), (2, 1), (3, 1)] [(vi 0), (vi 0), (vi 0), (vi 0)] [(0, (vi 4))] fun j =>
 (cJ 4 x3 j H).bind fun k =>
 du x2 x3 k)
 ((ai .other .eql x15 (vi 8)).bind fun l =>
 av l
 (ld [.f 2] x1 H fun m =>
 (FF bw [m, (vi 6)] H).bind fun d =>
 hJ [(0, 1), (1, 1), (2, 1), (3, 1)] [(vi 0), (vi 0), (vi 0), (vi 0)] [(0, (vi 5)), (2, d.1)] fun n =>
 (cJ 4 x3 n d.2).bind fun o =>
 du x2 x3 o)
 ((ai .other .eql x15 (vi 9)).bind fun p =>
 av p
 (hJ [(0, 1), (1, 1), (2, 1), (3, 1)] [(vi 0), (vi 0), (vi 0), (vi 0)] [(0, (vi 6))] fun q =>
 (cJ 4 x3 q H).bind fun s =>
 du x2 x3 s)
 (ld [.f 2] x1 H fun t =>
 (FF bw [t, (vi 9)] H).bind fun a =>
 (ai .other .add (vi 1) a.1).bind fun w =>
 ad [.f 3] x1 fun c =>
 (ar c a.2).bind fun y =>
 bX (ar c H) (ar c a.2) <|
 (FF bw [y, (vi 1000)] a.2).bind fun e =>
 st 1 [.f 0] x3 (vi 3) e.2 fun z =>
 st 1 [.f 2] x3 w z fun A =>
 st 1 [.f 3] x3 e.1 A fun g =>
 ld [.f 2] x1 g fun B =>
 (FF bw [B, (vi 13)] g).bind fun b =>
 (ai .other .eql b.1 (vi 12)).bind fun C =>
 av C
 (ld [.f 2] x1 b.2 fun D =>
 (FF bw [D, (vi 65536)] b.2).bind fun i =>
 (ai .other .add (vi 1) i.1).bind fun E =>
 st 1 [.f 2] x3 E i.2 fun G =>
 du x2 x3 G)
 (du x2 x3 b.2)))) :=
 (by kernel_rfl)
theorem Ad : uZ x1 x2 x3 x15 x48 H =
 av x48
 (st 1 [.f 0] x3 (vi 2) H fun b =>
 du x2 x3 b)
 ((ai .other .eql x15 (vi 6)).bind fun a =>
 av a
 (kU x1 x2 x3 x15 a H)
 ((ai .other .eql x15 (vi 7)).bind fun c =>
 kU x1 x2 x3 x15 c H)) :=
 (ct rfl (qQ [1, 1, 1, 0, 1, 4, 1, 3, 1, 2]) (qQ [1, 1, 1, 0, 1, 4, 1, 3, 1, 3]) (.tmp 48) (by kernel_rfl) (pt rfl 0 abC (by kernel_rfl)))
theorem Co : ym x1 x2 x3 x15 x35 H =
 av x35
 (ld [.f 2] x1 H fun d =>
 (FF bw [d, (vi 5)] H).bind fun a =>
 (ai .other .add (vi 1) a.1).bind fun e =>
 ad [.f 3] x1 fun b =>
 (ar b a.2).bind fun g =>
 bX (ar b H) (ar b a.2) <|
 (FF bw [g, (vi 3)] a.2).bind fun c =>
 (ai .other .add (vi 1) c.1).bind fun i =>
 st 1 [.f 0] x3 (vi 1) c.2 fun j =>
 st 1 [.f 2] x3 e j fun k =>
 st 1 [.f 3] x3 i k fun l =>
 du x2 x3 l)
 ((ai .other .eql x15 (vi 1)).bind fun m =>
 uZ x1 x2 x3 x15 m H) :=
 (ct rfl (qQ [1, 1, 1, 0, 1, 4, 1, 2]) (qQ [1, 1, 1, 0, 1, 4, 1, 3]) (.tmp 35) (by kernel_rfl) (pt rfl 0 abB (by kernel_rfl)))
theorem Cn : yl x1 x2 x3 x15 H =
 (ai .other .eql x15 (vi 0)).bind fun a =>
 ym x1 x2 x3 x15 a H :=
 (bt rfl (qQ [1, 1, 1, 0, 1, 4]) 0 xo (pt rfl 0 aiW (by kernel_rfl)))
theorem Ck : yj x1 x2 x3 H =
 ld [.f 0] x1 H fun b =>
 (FF bw [b, (vi 10)] H).bind fun a =>
 yl x1 x2 x3 a.1 a.2 :=
 (pt rfl 0 pn (pt rfl 0 aiU (by kernel_rfl)))
noncomputable def acM : OV := ba PP GG FF (qQ []) (ls [x0] 64) H sd bv sd
theorem Mh {r : Value × AH} (h : (
 aQ (Value.cells x0).toList H fun b j =>
 aQ [(vi 0), (vi 0), (vi 0), (vi 0)] j fun c d =>
 ld [.f 1] b d fun k =>
 (FF bw [k, (vi 23)] d).bind fun a =>
 (ai .other .eql a.1 (vi 22)).bind fun l =>
 av l
 ((ax 4 b a.2).bind fun m =>
 (cJ 4 c m a.2).bind fun e =>
 (ax 4 c e).bind fun n => some (n, e))
 (ld [.f 1] b a.2 fun o =>
 (FF bw [o, (vi 5)] a.2).bind fun g =>
 hJ [(0, 1), (1, 1), (2, 1), (3, 1)] [(vi 0), (vi 0), (vi 0), (vi 0)] [(1, g.1)] fun p =>
 aQ [(vi 0), (vi 0), (vi 0), (vi 0)] g.2 fun i q =>
 (cJ 4 i p q).bind fun s =>
 yj b c i s)) = some r) : FF sK [x0] H = some r :=
 fo (t := acM x0 H) Tryz.func35 (by kernel_rfl) (Eq.trans (pt rfl 2 aiS (by kernel_rfl)) h)
theorem qq {r : Value × AH} (h : (
 (FF vD [x0, x1, (.func (.func b8) #[] #[])] H).bind fun a =>
 some (a.1, a.2)) = some r) : FF eD [x0, x1] H = some r :=
 fo Tryz.func36 (by kernel_rfl) h
noncomputable def uM (p : List Nat) : Code := Code.sub (bK Tryz.f37) p
noncomputable def se : KK := dK PP (Tryz.f37).results.toList
noncomputable def ai0 : KK := CQ (uM [1, 1]) se bv se
noncomputable def Bc : OV := ai0 (ls [x0, x1, x2, u, u, u, x6] 23) H
noncomputable def Sg : KK := CQ (uM [1, 1, 1]) se bv se
noncomputable def aiY : KK := dD mM Sg
noncomputable def Bd : OV := Sg (ls [u, u, u, u, u, u, x6] 23) H
noncomputable def ai2 : KK := CQ (uM [1, 1, 0, 1]) aiY bv se
noncomputable def Be : OV := ai2 (ls [x0, x1, x2, u, u, u, x6, x7] 22) H
noncomputable def Sj : KX := BX 0 aiY bv
noncomputable def LH : KX := nJ mM Sj
noncomputable def Sh : KK := uz (uM [1, 1, 0, 1, 4, 5]) LH se
noncomputable def aiZ : KK := dD j4 Sh
noncomputable def nW : OV := Sh (ls [x0, x1, x2, u, u, u, x6, x7] 22) H
noncomputable def ai4 : KK := CQ (uM [1, 1, 0, 1, 4, 5, 1]) aiZ LH se
noncomputable def Bf : OV := ai4 (ls [x0, x1, x2, u, u, u, x6, x7] 22) H
noncomputable def Si : KK := CQ (uM [1, 1, 0, 1, 4, 5, 1, 1]) aiZ LH se
noncomputable def auV : KK := dD j4 Si
noncomputable def Bg : OV := Si (ls [x0, x1, x2, u, u, u, x6, x7] 22) H
noncomputable def auW : KX := BX 1 auV LH
noncomputable def uP : OV := Sj 0 (ls [u, u, u, u, u, u, x6] 23) H
theorem nQ : ap mM se := rf
theorem ai1 : ap 1073741752 ai0 := rc nQ aw nQ
theorem Fu : ap mM Sg := rc nQ aw nQ
theorem ai3 : ap j4 ai2 := rc (cd Fu) aw nQ
theorem sf : ∀ i, ap mM (Sj i) := rb (cd Fu) aw
theorem xp : ap j4 Sh := rl (cx sf) nQ
theorem ai5 : ap j4 ai4 := rc (cd xp) (cx sf) nQ
theorem OB : ap j4 Si := rc (cd xp) (cx sf) nQ
theorem ai6 : ∀ i, ap j4 (auW i) := rb (cd OB) (cx sf)
theorem FP : Bd x6 H =
 some ((vb true), H) :=
 (by kernel_rfl)
theorem FS : Bg x0 x1 x2 x6 x7 H =
 (ai .other .add x7 (vi 1)).bind fun a =>
 nW x0 x1 x2 x6 a H :=
 (by kernel_rfl)
theorem FR : Bf x0 x1 x2 x6 x7 H =
 ldN 7 [.i 7 x7] x0 H fun b =>
 ldN 7 [.i 7 x7] x1 H fun d =>
 (ce x2 [b, d]).bind fun c => (FF c.1 c.2 H).bind fun a =>
 (ot .not a.1).bind fun e =>
 av e
 (some ((vb false), a.2))
 (Bg x0 x1 x2 x6 x7 a.2) :=
 (pt rfl 0 OB (bt rfl (uM [1, 1, 0, 1, 4, 5, 1, 0, 4]) 1 ai6 (by kernel_rfl)))
theorem zL : uP x6 H = Bd x6 H :=
 (by kernel_rfl)
theorem sr : nW x0 x1 x2 x6 x7 H =
 fy x0 fun a =>
 (ai .other .lss x7 a).bind fun b =>
 av b
 (Bf x0 x1 x2 x6 x7 H)
 (uP x6 H) :=
 uW rfl xp (pt rfl 0 ai5 (by kernel_rfl))
theorem FQ : Be x0 x1 x2 x6 x7 H =
 nW x0 x1 x2 x6 x7 H :=
 (bt rfl (uM [1, 1, 0, 1, 4]) 0 sf (li rfl (uM [1, 1, 0, 1, 4, 5]) xp (by kernel_rfl)))
theorem FO : Bc x0 x1 x2 x6 H =
 Be x0 x1 x2 x6 (vi 0) H :=
 (pt rfl 0 Fu (pt rfl 0 ai3 (by kernel_rfl)))
noncomputable def akZ : OV := ba PP GG FF (uM []) (ls [x0, x1, x2] 27) H se bv se
theorem OK {r : Value × AH} (h : (
 fy x0 fun a =>
 fy x1 fun b =>
 (ai .other .neq a b).bind fun c =>
 av c
 (some ((vb false), H))
 (Bc x0 x1 x2 (vb false) H)) = some r) : FF qv [x0, x1, x2] H = some r :=
 fo (t := akZ x0 x1 x2 H) Tryz.func37 (by kernel_rfl) (Eq.trans (pt rfl 1 ai1 (by kernel_rfl)) h)
theorem HL {r : Value × AH} (h : (
 aQ (Value.cells x0).toList H fun b j =>
 aQ (Value.cells x1).toList j fun c a =>
 ld [.f 0] b a fun k =>
 ld [.f 0] c a fun l =>
 (ai .other .eql k l).bind fun d =>
 f0 d true  [.f 1] b a fun m =>
 f0 d true  [.f 1] c a fun n =>
 (gB d true (ai .other .eql m n)).bind fun o =>
 (aL d o (vb false)).bind fun e =>
 f0 e true  [.f 2] b a fun p =>
 f0 e true  [.f 2] c a fun q =>
 (gB e true (ai .other .eql p q)).bind fun s =>
 (aL e s (vb false)).bind fun g =>
 pw g true  4 [.f 3] b a fun t =>
 pw g true  4 [.f 3] c a fun w =>
 (gE g true a (FF qw [t, w] a)).bind fun i =>
 (aL g i.1 (vb false)).bind fun y =>
 some (y, i.2)) = some r) : FF ff [x0, x1] H = some r :=
 fo Tryz.func38 (by kernel_rfl) h
theorem OW {r : Value × AH} (h : (
 aQ (Value.cells x0).toList H fun e d =>
 (ai .other .rem x1 (vi 2)).bind fun y =>
 (ai .other .eql y (vi 0)).bind fun g =>
 f0 g false  [.f 1] e d fun z =>
 f0 g false  [.n, .f 11] z d fun A =>
 (Ab (yv g) false (fy A some) (some undef)).bind fun B =>
 (gB g false (ai .other .eql B (vi 0))).bind fun C =>
 (aL g (vb true) C).bind fun D =>
 av D
 (ld [.f 0] e d fun E =>
 (FF eg [E, (vi 5)] d).bind fun s =>
 ld [.f 1] e s.2 fun G =>
 (FF fQ [G, (vi 5)] s.2).bind fun I =>
 some ((vb true), I.2))
 ((ai .other .quo x1 (vi 2)).bind fun J =>
 ld [.f 1] e d fun K =>
 ld [.n, .f 11] K d fun L =>
 fy L fun M =>
 (FF bw [J, M] d).bind fun b =>
 ld [.f 0] e b.2 fun N =>
 (FF ef [N, b.1] b.2).bind fun a =>
 ad [.f 1] e fun k =>
 (ar k a.2).bind fun O =>
 bX (ar k b.2) (ar k a.2) <|
 ad [.n, .f 11] O fun l =>
 (ar l a.2).bind fun P =>
 bX (ar l b.2) (ar l a.2) <|
 ad [.i 1 b.1] P fun m =>
 (ar m a.2).bind fun t =>
 bX (ar m b.2) (ar m a.2) <|
 ad [.n, .f 0] t fun o =>
 (ar o a.2).bind fun Q =>
 (FF ch [(vi 11), b.1, (vi 0)] a.2).bind fun p =>
 bX (ar o p.2) (ar o a.2) <|
 (FF ne [Q, p.1] p.2).bind fun j =>
 (ai .ptr .neq a.1 (.pointer none)).bind fun c =>
 (gV c true a.1).bind fun R =>
 (gV c true j.1).bind fun S =>
 (gE c true j.2 (FF kC [R, (vi 5), S] j.2)).bind fun q =>
 (gV c true t).bind fun T =>
 (gV c true j.1).bind fun U =>
 (gE c true q.2 (FF gn [T, (vi 5), U, (vi 1)] q.2)).bind fun w =>
 (gB c true (ai .bool .eql q.1 w.1)).bind fun V =>
 (aL c V (vb false)).bind fun W =>
 some (W, w.2))) = some r) : FF vG [x0, x1] H = some r :=
 fo Tryz.func39 (by kernel_rfl) h
theorem avN {r : Value × AH} (h : (
 (ai .slice .eql x0 (.slice none 0 0)).bind fun b =>
 av b
 (some ((.slice none 0 0), H))
 (z5 0 5 [(vi 0), (vi 0), (vi 0), (vi 0), (vi 0)] [] H fun c d =>
 (eJ 5 40 c x0 d).bind fun a =>
 some (a.1, a.2))) = some r) : FF alP [x0] H = some r :=
 fo Tryz.func40 (by kernel_rfl) h
theorem xF {r : Value × AH} (h : (
 aQ (Value.cells x0).toList H fun a b =>
 ld [.f 0] a b fun d =>
 (FF iC [d, x1, x2] b).bind fun c =>
 ld [.f 1] a c.2 fun e =>
 (FF jL [e, x1, x2] c.2).bind fun g =>
 some (Value.tuple #[], g.2)) = some r) : FF kw [x0, x1, x2] H = some r :=
 fo Tryz.func41 (by kernel_rfl) h
theorem s0 {r : Value × AH} (h : (
 aQ (Value.cells x2).toList H fun b a =>
 (ax 4 b a).bind fun c =>
 hJ [(0, 1), (1, 1), (2, 4), (6, 1), (7, 1), (8, 1), (9, 1), (10, 1), (11, 1), (12, 1), (13, 1), (14, 1), (15, 1), (16, 1), (17, 4), (21, 1), (22, 1), (23, 1), (24, 1), (25, 1), (26, 3), (29, 1), (30, 4)] [(.pointer none), (vi 0), (vi 0), (vi 0), (vi 0), (vi 0), (vi 0), (vi 0), (vi 0), (vb false), (vi 0), (vw 0), (vw 0), (vw 0), (vw 0), (vw 0), (vi 0), (vi 0), (.slice none 0 0), (vi 0), (vw 0), (vi 0), (vi 0), (.slice none 0 0), (vw 0), (vw 0), (vi 0), (vi 0), (vi 0), (vb false), (vi 0), (.slice none 0 0), (vi 0), (vw 0)] [(0, x0), (1, x1), (2, c), (5, (vi (-1)))] fun d =>
 aQ (Value.cells d).toList a fun e f =>
 some (e, f)) = some r) : FF kQ [x0, x1, x2] H = some r :=
 fo Tryz.func42 (by kernel_rfl) h
theorem Rg {r : Value × AH} (h : (
 aQ (Value.cells x2).toList H fun b a =>
 (ax 4 b a).bind fun e =>
 ld [.n, .f 2] x0 a fun g =>
 ld [.f 1] b a fun i =>
 (FF fD [g, i] a).bind fun c =>
 bX (ax 4 b c.2) (ax 4 b a) <|
 hJ [(0, 1), (1, 1), (2, 4), (6, 1), (7, 1), (8, 1), (9, 1), (10, 1), (11, 1), (12, 1), (13, 1), (14, 1), (15, 1)] [(.pointer none), (vi 0), (vi 0), (vi 0), (vi 0), (vi 0), (vi 0), Value.nilFunc, (vi 0), (vi 0), (vb false), (.pointer none), (vw 0), (vw 0), (vi 0), (vw 0)] [(0, x0), (1, x1), (2, e), (3, c.1)] fun j =>
 aQ (Value.cells j).toList c.2 fun d k =>
 st 1 [.n, .f 7] d (.func (.func m6) #[d] #[]) k fun l =>
 some (d, l)) = some r) : FF z7 [x0, x1, x2] H = some r :=
 fo Tryz.func43 (by kernel_rfl) h
noncomputable def ai7 (p : List Nat) : Code := Code.sub (bK Tryz.f44) p
noncomputable def Fv : KK := dK PP (Tryz.f44).results.toList
noncomputable def ai8 : KK := CQ (ai7 [1, 1, 1]) Fv bv Fv
noncomputable def GI : OV := ai8 (ls [u, u, u, u, u, x5, x6, x7] 26) H
noncomputable def ajA : KK := CQ (ai7 [1, 1, 1, 1]) Fv bv Fv
noncomputable def wg : OV := ajA (ls [u, u, u, u, u, u, x6, x7] 26) H
theorem Df : ap 17179869119 Fv := rf
theorem ai9 : ap 17179868959 ai8 := rc Df aw Df
theorem ajB : ap 17179868991 ajA := rc Df aw Df
theorem u3 : wg x6 x7 H =
 some (x7, H) :=
 (by kernel_rfl)
theorem HV : GI x5 x6 x7 H =
 ld [.f 0] x5 H fun a =>
 (ai .other .eql a (vi 1)).bind fun b =>
 av b
 (st 1 [.n, .f 7] x7 (.func (.func fS) #[x7] #[]) H fun c =>
 wg x6 x7 c)
 (wg x6 x7 H) :=
 (pt rfl 0 ajB (by kernel_rfl))
noncomputable def arW : OV := ba PP GG FF (ai7 []) (ls [x0, x1, x2] 31) H Fv bv Fv
theorem TB {r : Value × AH} (h : (
 aQ (Value.cells x2).toList H fun a b =>
 (ax 4 a b).bind fun e =>
 ld [.n, .f 2] x0 b fun g =>
 ld [.f 1] a b fun i =>
 (FF fD [g, i] b).bind fun c =>
 bX (ax 4 a c.2) (ax 4 a b) <|
 hJ [(0, 1), (1, 1), (2, 4), (6, 1), (7, 1), (8, 1), (9, 1), (10, 1), (11, 1), (12, 1), (13, 1), (14, 1), (15, 1), (16, 1)] [(.pointer none), (vi 0), (vi 0), (vi 0), (vi 0), (vi 0), (vi 0), Value.nilFunc, (vi 0), (vi 0), (vi 0), (vi 0), (.pointer none), (vw 0), (vw 0), (vi 0), (vi 0)] [(0, x0), (1, x1), (2, e), (3, c.1), (6, (vi (-1)))] fun j =>
 aQ (Value.cells j).toList c.2 fun d k =>
 st 1 [.n, .f 7] d (.func (.func eZ) #[d] #[]) k fun l =>
 GI a (.pointer none) d l) = some r) : FF z9 [x0, x1, x2] H = some r :=
 fo (t := arW x0 x1 x2 H) Tryz.func44 (by kernel_rfl) (Eq.trans (pt rfl 2 ai9 (by kernel_rfl)) h)
theorem QY {r : Value × AH} (h : (
 aQ [(vi 0), (.slice none 0 0), (vi 0), (vw 0)] H fun b d =>
 ld [.n, .f 7] x0 d fun g =>
 (ce g [x1]).bind fun c => (FF c.1 c.2 d).bind fun a =>
 (ag a.1 0).bind fun i =>
 (ag a.1 1).bind fun j =>
 (cJ 4 b i a.2).bind fun e =>
 (ax 4 b e).bind fun k => some (Value.tuple #[k, j], e)) = some r) : FF z6 [x0, x1] H = some r :=
 fo Tryz.func45 (by kernel_rfl) h
noncomputable def cP (p : List Nat) : Code := Code.sub (bK Tryz.f46) p
noncomputable def gP : KK := dK PP (Tryz.f46).results.toList
noncomputable def ajC : KK := CQ (cP [1, 1, 1]) gP bv gP
noncomputable def Tt : OV := ajC (ls [x0, x1, u, u, x4, x5, x6, x7] 297) H
noncomputable def ajE : KK := CQ (cP [1, 1, 1, 1]) gP bv gP
noncomputable def Tv : OV := ajE (ls [x0, x1, u, u, x4, x5, x6, x7] 297) H
noncomputable def Sk : KK := CQ (cP [1, 1, 1, 1, 1]) gP bv gP
noncomputable def iA : KK := dD YW Sk
noncomputable def fX : OV := Sk (ls [u, u, u, u, x4] 300) H
noncomputable def ajG : KK := CQ (cP [1, 1, 1, 1, 0, 1]) iA bv gP
noncomputable def qH : OV := ajG (ls [x0, x1, u, u, x4, x5, x6, x7, u, u, u, u, u, u, u, u, u, u, u, u, u, u, u, u, u, u, u, u, u, u, u, u, u, u, u, u, u, u, u, u, u, u, u, u, u, u, u, u, u, u, u, u, u, u, u, u, u, u, u, u, u, u, u, u, u, u, u, u, u, u, u, u, u, u, u, u, u, u, u, u, u, u, u, u, u, u, u, u, u, u, u, u, u, x93] 211) H
noncomputable def ajK : KX := BX 0 iA bv
noncomputable def jy : KX := nJ YW ajK
noncomputable def ajI : KK := CQ (cP [1, 1, 1, 1, 0, 1, 4, 1]) iA jy gP
noncomputable def Tx : OV := ajI (ls [x0, x1, u, u, x4, x5, x6, x7, u, u, u, u, u, u, u, u, u, u, u, u, u, u, u, u, u, u, u, u, u, u, u, u, u, u, u, u, u, u, u, u, u, u, u, u, u, u, u, u, u, u, u, u, u, u, u, u, u, u, u, u, u, u, u, u, u, u, u, u, u, u, u, u, u, u, u, u, u, u, u, u, u, u, u, u, u, u, u, u, u, u, u, u, u, x93, u, u, u, x97] 207) H
noncomputable def WV : KK := CQ (cP [1, 1, 1, 1, 0, 1, 4, 1, 3, 1]) iA jy gP
noncomputable def XO : OV := WV (ls [x0, x1, u, u, x4, x5, x6, x7, u, u, u, u, u, u, u, u, u, u, u, u, u, u, u, u, u, u, u, u, u, u, u, u, u, u, u, u, u, u, u, u, u, u, u, u, u, u, u, u, u, u, u, u, u, u, u, u, u, u, u, u, u, u, u, u, u, u, u, u, u, u, u, u, u, u, u, u, u, u, u, u, u, u, u, u, u, u, u, u, u, u, u, u, u, x93, u, u, u, u, u, u, u, u, u, u, u, u, u, u, u, u, u, u, x112] 192) H
noncomputable def WW : KK := CQ (cP [1, 1, 1, 1, 0, 1, 4, 1, 3, 1, 3, 1]) iA jy gP
noncomputable def XP : OV := WW (ls [x0, x1, u, u, x4, x5, x6, x7, u, u, u, u, u, u, u, u, u, u, u, u, u, u, u, u, u, u, u, u, u, u, u, u, u, u, u, u, u, u, u, u, u, u, u, u, u, u, u, u, u, u, u, u, u, u, u, u, u, u, u, u, u, u, u, u, u, u, u, u, u, u, u, u, u, u, u, u, u, u, u, u, u, u, u, u, u, u, u, u, u, u, u, u, u, x93, u, u, u, u, u, u, u, u, u, u, u, u, u, u, u, u, u, u, u, u, u, u, u, u, u, u, u, u, u, u, u, u, u, u, u, u, u, u, u, x133] 171) H
noncomputable def WX : KK := CQ (cP [1, 1, 1, 1, 0, 1, 4, 1, 3, 1, 3, 1, 3, 1]) iA jy gP
noncomputable def XQ : OV := WX (ls [x0, x1, u, u, x4, x5, x6, x7, u, u, u, u, u, u, u, u, u, u, u, u, u, u, u, u, u, u, u, u, u, u, u, u, u, u, u, u, u, u, u, u, u, u, u, u, u, u, u, u, u, u, u, u, u, u, u, u, u, u, u, u, u, u, u, u, u, u, u, u, u, u, u, u, u, u, u, u, u, u, u, u, u, u, u, u, u, u, u, u, u, u, u, u, u, x93, u, u, u, u, u, u, u, u, u, u, u, u, u, u, u, u, u, u, u, u, u, u, u, u, u, u, u, u, u, u, u, u, u, u, u, u, u, u, u, u, u, u, u, u, u, u, u, u, u, u, u, u, u, u, u, u, u, x151] 153) H
noncomputable def WY : KK := CQ (cP [1, 1, 1, 1, 0, 1, 4, 1, 3, 1, 3, 1, 3, 1, 3, 1]) iA jy gP
noncomputable def My : OV := WY (ls [x0, x1, u, u, x4, x5, x6, x7, u, u, u, u, u, u, u, u, u, u, u, u, u, u, u, u, u, u, u, u, u, u, u, u, u, u, u, u, u, u, u, u, u, u, u, u, u, u, u, u, u, u, u, u, u, u, u, u, u, u, u, u, u, u, u, u, u, u, u, u, u, u, u, u, u, u, u, u, u, u, u, u, u, u, u, u, u, u, u, u, u, u, u, u, u, x93, u, u, u, u, u, u, u, u, u, u, u, u, u, u, u, u, u, u, u, u, u, u, u, u, u, u, u, u, u, u, u, u, u, u, u, u, u, u, u, u, u, u, u, u, u, u, u, u, u, u, u, u, u, u, u, u, u, u, u, u, u, u, u, u, u, u, u, u, u, u, u, u, u, u, u, u, u, x171] 133) H
noncomputable def WZ : KK := CQ (cP [1, 1, 1, 1, 0, 1, 4, 1, 3, 1, 3, 1, 3, 1, 3, 1, 3, 1]) iA jy gP
noncomputable def XR : OV := WZ (ls [x0, x1, u, u, x4, x5, x6, x7, u, u, u, u, u, u, u, u, u, u, u, u, u, u, u, u, u, u, u, u, u, u, u, u, u, u, u, u, u, u, u, u, u, u, u, u, u, u, u, u, u, u, u, u, u, u, u, u, u, u, u, u, u, u, u, u, u, u, u, u, u, u, u, u, u, u, u, u, u, u, u, u, u, u, u, u, u, u, u, u, u, u, u, u, u, x93, u, u, u, u, u, u, u, u, u, u, u, u, u, u, u, u, u, u, u, u, u, u, u, u, u, u, u, u, u, u, u, u, u, u, u, u, u, u, u, u, u, u, u, u, u, u, u, u, u, u, u, u, u, u, u, u, u, u, u, u, u, u, u, u, u, u, u, u, u, u, u, u, u, u, u, u, u, u, u, u, u, u, u, u, u, u, u, u, u, u, u, u, x186] 118) H
noncomputable def W0 : KK := CQ (cP [1, 1, 1, 1, 0, 1, 4, 1, 3, 1, 3, 1, 3, 1, 3, 1, 3, 1, 3, 1]) iA jy gP
noncomputable def Mz : OV := W0 (ls [x0, x1, u, u, x4, x5, x6, x7, u, u, u, u, u, u, u, u, u, u, u, u, u, u, u, u, u, u, u, u, u, u, u, u, u, u, u, u, u, u, u, u, u, u, u, u, u, u, u, u, u, u, u, u, u, u, u, u, u, u, u, u, u, u, u, u, u, u, u, u, u, u, u, u, u, u, u, u, u, u, u, u, u, u, u, u, u, u, u, u, u, u, u, u, u, x93, u, u, u, u, u, u, u, u, u, u, u, u, u, u, u, u, u, u, u, u, u, u, u, u, u, u, u, u, u, u, u, u, u, u, u, u, u, u, u, u, u, u, u, u, u, u, u, u, u, u, u, u, u, u, u, u, u, u, u, u, u, u, u, u, u, u, u, u, u, u, u, u, u, u, u, u, u, u, u, u, u, u, u, u, u, u, u, u, u, u, u, u, u, u, u, u, u, u, u, u, u, u, u, x197] 107) H
noncomputable def W3 : KK := CQ (cP [1, 1, 1, 1, 0, 1, 4, 1, 3, 1, 3, 1, 3, 1, 3, 1, 3, 1, 3, 1, 2, 1, 1]) iA jy gP
noncomputable def XS : OV := W3 (ls [x0, u, u, u, x4, u, u, u, u, u, u, u, u, x13] 291) H
noncomputable def aq7 : KX := BX 1 iA jy
noncomputable def W4 : KK := CQ (cP [1, 1, 1, 1, 0, 1, 4, 1, 3, 1, 3, 1, 3, 1, 3, 1, 3, 1, 3, 1, 3, 1]) iA jy gP
noncomputable def MA : OV := W4 (ls [x0, x1, u, u, x4, x5, x6, x7, u, u, u, u, u, u, u, u, u, u, u, u, u, u, u, u, u, u, u, u, u, u, u, u, u, u, u, u, u, u, u, u, u, u, u, u, u, u, u, u, u, u, u, u, u, u, u, u, u, u, u, u, u, u, u, u, u, u, u, u, u, u, u, u, u, u, u, u, u, u, u, u, u, u, u, u, u, u, u, u, u, u, u, u, u, x93, u, u, u, u, u, u, u, u, u, u, u, u, u, u, u, u, u, u, u, u, u, u, u, u, u, u, u, u, u, u, u, u, u, u, u, u, u, u, u, u, u, u, u, u, u, u, u, u, u, u, u, u, u, u, u, u, u, u, u, u, u, u, u, u, u, u, u, u, u, u, u, u, u, u, u, u, u, u, u, u, u, u, u, u, u, u, u, u, u, u, u, u, u, u, u, u, u, u, u, u, u, u, u, u, u, u, u, u, u, u, u, u, u, u, u, u, u, u, u, u, u, u, u, u, u, u, u, u, u, u, u, u, u, u, u, u, u, u, u, u, u, u, u, u, u, u, u, u, x242] 62) H
noncomputable def W5 : KK := CQ (cP [1, 1, 1, 1, 0, 1, 4, 1, 3, 1, 3, 1, 3, 1, 3, 1, 3, 1, 3, 1, 3, 1, 3, 1]) iA jy gP
noncomputable def yI : OV := W5 (ls [x0, x1, u, u, x4, x5, x6, x7, u, u, u, u, u, u, u, u, u, u, u, u, u, u, u, u, u, u, u, u, u, u, u, u, u, u, u, u, u, u, u, u, u, u, u, u, u, u, u, u, u, u, u, u, u, u, u, u, u, u, u, u, u, u, u, u, u, u, u, u, u, u, u, u, u, u, u, u, u, u, u, u, u, u, u, u, u, u, u, u, u, u, u, u, u, x93, u, u, u, u, u, u, u, u, u, u, u, u, u, u, u, u, u, u, u, u, u, u, u, u, u, u, u, u, u, u, u, u, u, u, u, u, u, u, u, u, u, u, u, u, u, u, u, u, u, u, u, u, u, u, u, u, u, u, u, u, u, u, u, u, u, u, u, u, u, u, u, u, u, u, u, u, u, u, u, u, u, u, u, u, u, u, u, u, u, u, u, u, u, u, u, u, u, u, u, u, u, u, u, u, u, u, u, u, u, u, u, u, u, u, u, u, u, u, u, u, u, u, u, u, u, u, u, u, u, u, u, u, u, u, u, u, u, u, u, u, u, u, u, u, u, u, u, u, u, u, u, u, u, u, x248] 56) H
noncomputable def W6 : KK := CQ (cP [1, 1, 1, 1, 0, 1, 4, 1, 3, 1, 3, 1, 3, 1, 3, 1, 3, 1, 3, 1, 3, 1, 3, 1, 3, 1]) iA jy gP
noncomputable def MB : OV := W6 (ls [x0, x1, u, u, x4, x5, x6, u, u, u, u, u, u, u, u, u, u, u, u, u, u, u, u, u, u, u, u, u, u, u, u, u, u, u, u, u, u, u, u, u, u, u, u, u, u, u, u, u, u, u, u, u, u, u, u, u, u, u, u, u, u, u, u, u, u, u, u, u, u, u, u, u, u, u, u, u, u, u, u, u, u, u, u, u, u, u, u, u, u, u, u, u, u, x93, u, u, u, u, u, u, u, u, u, u, u, u, u, u, u, u, u, u, u, u, u, u, u, u, u, u, u, u, u, u, u, u, u, u, u, u, u, u, u, u, u, u, u, u, u, u, u, u, u, u, u, u, u, u, u, u, u, u, u, u, u, u, u, u, u, u, u, u, u, u, u, u, u, u, u, u, u, u, u, u, u, u, u, u, u, u, u, u, u, u, u, u, u, u, u, u, u, u, u, u, u, u, u, u, u, u, u, u, u, u, u, u, u, u, u, u, u, u, u, u, u, u, u, u, u, u, u, u, u, u, u, u, u, u, u, u, u, u, u, u, u, u, u, u, u, u, u, u, u, u, u, u, u, u, u, u, u, u, u, u, u, u, u, u, u, u, u, u, u, u, u, u, u, u, u, u, u, u, x272] 32) H
noncomputable def W7 : KK := CQ (cP [1, 1, 1, 1, 0, 1, 4, 1, 3, 1, 3, 1, 3, 1, 3, 1, 3, 1, 3, 1, 3, 1, 3, 1, 3, 1, 3, 1]) iA jy gP
noncomputable def XT : OV := W7 (ls [x0, x1, u, u, x4, x5, x6, u, u, u, u, u, u, u, u, u, u, u, u, u, u, u, u, u, u, u, u, u, u, u, u, u, u, u, u, u, u, u, u, u, u, u, u, u, u, u, u, u, u, u, u, u, u, u, u, u, u, u, u, u, u, u, u, u, u, u, u, u, u, u, u, u, u, u, u, u, u, u, u, u, u, u, u, u, u, u, u, u, u, u, u, u, u, x93, u, u, u, u, u, u, u, u, u, u, u, u, u, u, u, u, u, u, u, u, u, u, u, u, u, u, u, u, u, u, u, u, u, u, u, u, u, u, u, u, u, u, u, u, u, u, u, u, u, u, u, u, u, u, u, u, u, u, u, u, u, u, u, u, u, u, u, u, u, u, u, u, u, u, u, u, u, u, u, u, u, u, u, u, u, u, u, u, u, u, u, u, u, u, u, u, u, u, u, u, u, u, u, u, u, u, u, u, u, u, u, u, u, u, u, u, u, u, u, u, u, u, u, u, u, u, u, u, u, u, u, u, u, u, u, u, u, u, u, u, u, u, u, u, u, u, u, u, u, u, u, u, u, u, u, u, u, u, u, u, u, u, u, u, u, u, u, u, u, u, u, u, u, u, u, u, u, u, u, u, u, u, u, u, u, u, u, u, u, x283] 21) H
noncomputable def W8 : KK := CQ (cP [1, 1, 1, 1, 0, 1, 4, 1, 3, 1, 3, 1, 3, 1, 3, 1, 3, 1, 3, 1, 3, 1, 3, 1, 3, 1, 3, 1, 3, 1]) iA jy gP
noncomputable def mm : OV := W8 (ls [x0, x1, u, u, x4, u, x6, u, u, u, u, u, u, u, u, u, u, u, u, u, u, u, u, u, u, u, u, u, u, u, u, u, u, u, u, u, u, u, u, u, u, u, u, u, u, u, u, u, u, u, u, u, u, u, u, u, u, u, u, u, u, u, u, u, u, u, u, u, u, u, u, u, u, u, u, u, u, u, u, u, u, u, u, u, u, u, u, u, u, u, u, u, u, u, u, u, u, u, u, u, u, u, u, u, u, u, u, u, u, u, u, u, u, u, u, u, u, u, u, u, u, u, u, u, u, u, u, u, u, u, u, u, u, u, u, u, u, u, u, u, u, u, u, u, u, u, u, u, u, u, u, u, u, u, u, u, u, u, u, u, u, u, u, u, u, u, u, u, u, u, u, u, u, u, u, u, u, u, u, u, u, u, u, u, u, u, u, u, u, u, u, u, u, u, u, u, u, u, u, u, u, u, u, u, u, u, u, u, u, u, u, u, u, u, u, u, u, u, u, u, u, u, u, u, u, u, u, u, u, u, u, u, u, u, u, u, u, u, u, u, u, u, u, u, u, u, u, u, u, u, u, u, u, u, u, u, u, u, u, u, u, u, u, u, u, u, u, u, u, u, u, u, u, u, u, u, u, u, u, u, u, u, u, u, u, u, u, u, u, u, u, u, u, u, u, u, u, x297] 7) H
theorem dE : ap YW gP := rf
theorem ajD : ap asZ ajC := rc dE aw dE
theorem ajF : ap asZ ajE := rc dE aw dE
theorem dv : ap YW Sk := rc dE aw dE
theorem ajH : ap 65185151242703554760590262029100101153646988597309960020356494369436681278143732398675721996 ajG := rc (cd dv) aw dE
theorem ed : ∀ i, ap YW (ajK i) := rb (cd dv) aw
theorem ajJ : ap 65185151242703554760590262029100101153646988597309960020356494210980356249615057211587821324 ajI := rc (cd dv) (cx ed) dE
theorem abD : ap 65185151242703554760590262029100101153646988597309960020351302072578146450515201902346501900 WV := rc (cd dv) (cx ed) dE
theorem abE : ap 65185151242703554760590262029100101153646988597309949131320752899405850450156294582092955404 WW := rc (cd dv) (cx ed) dE
theorem abF : ap 65185151242703554760590262029100101153646988594455464634944574607320109339244742125910228748 WX := rc (cd dv) (cx ed) dE
theorem abG : ap 65185151242703554760590262029100101153643995441956706331180013222899278330519477048827707148 WY := rc (cd dv) (cx ed) dE
theorem abH : ap 65185151242703554760590262029100101055567273981893073085422284631816893526544428578925182732 WZ := rc (cd dv) (cx ed) dE
theorem abI : ap 65185151242703554760590262029099900286391456223525517275094951724111366002769509549571309324 W0 := rc (cd dv) (cx ed) dE
theorem abJ : ap 65185151242703554760590262029100101153646988597309960020356494379340201592426774597868707822 W3 := rc (cd dv) (cx ed) dE
theorem abP : ∀ i, ap YW (aq7 i) := rb (cd dv) (cx ed)
theorem abK : ap 65185151242703554753522873769986563835313798594338285957046558781934205445657307593505242892 W4 := rc (cd dv) (cx ed) dE
theorem abL : ap 65185151242703554308277413445833712780322828407122819968520616769278227999012544867765059340 W5 := rc (cd dv) (cx ed) dE
theorem abM : ap 65185151235115004400333507845820953080117617868238058305309074364546789052601137534592876428 W6 := rc (cd dv) (cx ed) dE
theorem abN : ap 65185135701352416954757694673404846565495735458055247603240324354937403366909450757007736716 W7 := rc (cd dv) (cx ed) dE
theorem abO : ap 64930521745661743999806706318048928883515555048101717989026976823170903929956357509595791276 W8 := rc (cd dv) (cx ed) dE
theorem cA : fX x4 H =
 some ((vb false), H) :=
 (by kernel_rfl)
theorem Tw : XS x0 x4 x13 H =
 (FF b7 [x0] H).bind fun a =>
 ad [.n, .f 11] x0 fun c =>
 (ar c a.2).bind fun e =>
 bX (ar c H) (ar c a.2) <|
 ad [.n, .f 12] x0 fun d =>
 (ar d a.2).bind fun g =>
 bX (ar d H) (ar d a.2) <|
 (FF iW [a.1, e, g] a.2).bind fun b =>
 av b.1
 (st 1 [.n, .f 6] x0 (vi 15) b.2 fun i =>
 fX x4 i)
 ((ai .other .eql x13 (vi 1)).bind fun j =>
 av j
 (st 1 [.n, .f 6] x0 (vi 9) b.2 fun k =>
 fX x4 k)
 (st 1 [.n, .f 6] x0 (vi 12) b.2 fun l =>
 fX x4 l)) :=
 (bt rfl (cP [1, 1, 1, 1, 0, 1, 4, 1, 3, 1, 3, 1, 3, 1, 3, 1, 3, 1, 3, 1, 2, 1, 1, 4]) 1 abP (by kernel_rfl))
theorem nz : mm x0 x1 x4 x6 x297 H =
 av x297
 ((FF atL [x0, x1] H).bind fun a =>
 some (a.1, a.2))
 ((FF alN [x0, x6] H).bind fun b =>
 some (b.1, b.2)) :=
 (by kernel_rfl)
theorem GC : XT x0 x1 x4 x5 x6 x93 x283 H =
 av x283
 (ld [.n, .f 6] x5 H fun d =>
 ld [.n, .f 1] x0 H fun e =>
 (FF jK [d, e] H).bind fun g =>
 st 1 [.n, .f 6] x0 (vi 13) g.2 fun i =>
 fX x4 i)
 ((ai .other .eql x93 (vi 15)).bind fun a =>
 av a
 (mm x0 x1 x4 x6 a H)
 ((ai .other .eql x93 (vi 16)).bind fun b =>
 av b
 (mm x0 x1 x4 x6 b H)
 ((ai .other .eql x93 (vi 17)).bind fun c =>
 av c
 (mm x0 x1 x4 x6 c H)
 ((ai .other .eql x93 (vi 18)).bind fun j =>
 mm x0 x1 x4 x6 j H)))) :=
 (ct rfl (cP [1, 1, 1, 1, 0, 1, 4, 1, 3, 1, 3, 1, 3, 1, 3, 1, 3, 1, 3, 1, 3, 1, 3, 1, 3, 1, 3, 1, 2]) (cP [1, 1, 1, 1, 0, 1, 4, 1, 3, 1, 3, 1, 3, 1, 3, 1, 3, 1, 3, 1, 3, 1, 3, 1, 3, 1, 3, 1, 3]) (.tmp 283) (by kernel_rfl) (pt rfl 0 abO (by kernel_rfl)))
theorem we : MB x0 x1 x4 x5 x6 x93 x272 H =
 av x272
 ((FF b7 [x0] H).bind fun a =>
 ad [.n, .f 1] x0 fun b =>
 (ar b a.2).bind fun d =>
 bX (ar b H) (ar b a.2) <|
 (FF fR [x0] a.2).bind fun c =>
 bX (ar b c.2) (ar b a.2) <|
 (FF iY [a.1, d, c.1] c.2).bind fun e =>
 some ((vb true), e.2))
 ((ai .other .eql x93 (vi 12)).bind fun g =>
 XT x0 x1 x4 x5 x6 x93 g H) :=
 (ct rfl (cP [1, 1, 1, 1, 0, 1, 4, 1, 3, 1, 3, 1, 3, 1, 3, 1, 3, 1, 3, 1, 3, 1, 3, 1, 3, 1, 2]) (cP [1, 1, 1, 1, 0, 1, 4, 1, 3, 1, 3, 1, 3, 1, 3, 1, 3, 1, 3, 1, 3, 1, 3, 1, 3, 1, 3]) (.tmp 272) (by kernel_rfl) (pt rfl 0 abN (by kernel_rfl)))
theorem wc : yI x0 x1 x4 x5 x6 x7 x93 x248 H =
 av x248
 ((FF b7 [x0] H).bind fun a =>
 ad [.n, .f 1] x0 fun c =>
 (ar c a.2).bind fun e =>
 bX (ar c H) (ar c a.2) <|
 (FF fR [x0] a.2).bind fun b =>
 bX (ar c b.2) (ar c a.2) <|
 (ax 3 x7 b.2).bind fun g =>
 bX (ax 3 x7 H) (ax 3 x7 b.2) <|
 bX (ax 3 x7 a.2) (ax 3 x7 b.2) <|
 (FF nj [a.1, e, b.1, g] b.2).bind fun i =>
 st 1 [.n, .f 6] x0 (vi 11) i.2 fun d =>
 ld [.n, .f 13] x0 d fun j =>
 (ai .other .eql j (vw 1)).bind fun k =>
 av k
 (st 1 [.n, .f 6] x0 (vi 21) d fun l =>
 fX x4 l)
 (fX x4 d))
 ((ai .other .eql x93 (vi 11)).bind fun m =>
 MB x0 x1 x4 x5 x6 x93 m H) :=
 (ct rfl (cP [1, 1, 1, 1, 0, 1, 4, 1, 3, 1, 3, 1, 3, 1, 3, 1, 3, 1, 3, 1, 3, 1, 3, 1, 2]) (cP [1, 1, 1, 1, 0, 1, 4, 1, 3, 1, 3, 1, 3, 1, 3, 1, 3, 1, 3, 1, 3, 1, 3, 1, 3]) (.tmp 248) (by kernel_rfl) (pt rfl 0 abM (by kernel_rfl)))
theorem wb : MA x0 x1 x4 x5 x6 x7 x93 x242 H =
 av x242
 ((FF kB [x0, x1] H).bind fun b =>
 fX x4 b.2)
 ((ai .other .eql x93 (vi 10)).bind fun a =>
 av a
 (yI x0 x1 x4 x5 x6 x7 x93 a H)
 ((ai .other .eql x93 (vi 14)).bind fun c =>
 yI x0 x1 x4 x5 x6 x7 x93 c H)) :=
 (ct rfl (cP [1, 1, 1, 1, 0, 1, 4, 1, 3, 1, 3, 1, 3, 1, 3, 1, 3, 1, 3, 1, 3, 1, 2]) (cP [1, 1, 1, 1, 0, 1, 4, 1, 3, 1, 3, 1, 3, 1, 3, 1, 3, 1, 3, 1, 3, 1, 3]) (.tmp 242) (by kernel_rfl) (pt rfl 0 abL (by kernel_rfl)))
theorem qI : Mz x0 x1 x4 x5 x6 x7 x93 x197 H =
 av x197
 ((FF b7 [x0] H).bind fun a =>
 ad [.n, .f 1] x0 fun c =>
 (ar c a.2).bind fun i =>
 bX (ar c H) (ar c a.2) <|
 (FF iX [a.1, i] a.2).bind fun d =>
 st 1 [.n, .f 12] x0 d.1 d.2 fun e =>
 ld [.n, .f 11] x0 e fun j =>
 (FF gR [j] e).bind fun b =>
 (ag b.1 0).bind fun m =>
 (ag b.1 1).bind fun k =>
 (ag b.1 2).bind fun o =>
 XS x0 x4 k b.2)
 ((ai .other .eql x93 (vi 9)).bind fun g =>
 av g
 (MA x0 x1 x4 x5 x6 x7 x93 g H)
 ((ai .other .eql x93 (vi 13)).bind fun l =>
 MA x0 x1 x4 x5 x6 x7 x93 l H)) :=
 (ct rfl (cP [1, 1, 1, 1, 0, 1, 4, 1, 3, 1, 3, 1, 3, 1, 3, 1, 3, 1, 3, 1, 2]) (cP [1, 1, 1, 1, 0, 1, 4, 1, 3, 1, 3, 1, 3, 1, 3, 1, 3, 1, 3, 1, 3]) (.tmp 197) (pt rfl 1 abJ (by kernel_rfl)) (pt rfl 0 abK (by kernel_rfl)))
theorem GB : XR x0 x1 x4 x5 x6 x7 x93 x186 H =
 av x186
 (st 1 [.n, .f 6] x0 (vi 8) H fun b =>
 (FF eW [x0] b).bind fun a =>
 (ai .other .eql a.1 (vi 2)).bind fun c =>
 av c
 (st 1 [.n, .f 6] x0 (vi 3) a.2 fun d =>
 fX x4 d)
 (fX x4 a.2))
 ((ai .other .eql x93 (vi 8)).bind fun e =>
 Mz x0 x1 x4 x5 x6 x7 x93 e H) :=
 (ct rfl (cP [1, 1, 1, 1, 0, 1, 4, 1, 3, 1, 3, 1, 3, 1, 3, 1, 3, 1, 2]) (cP [1, 1, 1, 1, 0, 1, 4, 1, 3, 1, 3, 1, 3, 1, 3, 1, 3, 1, 3]) (.tmp 186) (by kernel_rfl) (pt rfl 0 abI (by kernel_rfl)))
theorem wa : My x0 x1 x4 x5 x6 x7 x93 x171 H =
 av x171
 (ld [.n, .f 1] x0 H fun a =>
 ld [.n, .f 10] x0 H fun b =>
 (FF lJ [x5, a, b] H).bind fun c =>
 st 1 [.n, .f 6] x0 (vi 7) c.2 fun d =>
 fX x4 d)
 ((ai .other .eql x93 (vi 7)).bind fun e =>
 XR x0 x1 x4 x5 x6 x7 x93 e H) :=
 (ct rfl (cP [1, 1, 1, 1, 0, 1, 4, 1, 3, 1, 3, 1, 3, 1, 3, 1, 2]) (cP [1, 1, 1, 1, 0, 1, 4, 1, 3, 1, 3, 1, 3, 1, 3, 1, 3]) (.tmp 171) (by kernel_rfl) (pt rfl 0 abH (by kernel_rfl)))
theorem GA : XQ x0 x1 x4 x5 x6 x7 x93 x151 H =
 av x151
 (ld [.n, .f 7] x5 H fun b =>
 ld [.n, .f 1] x0 H fun c =>
 (FF ej [b, c, x6] H).bind fun a =>
 ld [.n, .f 9] x0 a.2 fun d =>
 (ot .not d).bind fun e =>
 av e
 (some ((vb true), a.2))
 (st 1 [.n, .f 6] x0 (vi 6) a.2 fun g =>
 fX x4 g))
 ((ai .other .eql x93 (vi 6)).bind fun i =>
 My x0 x1 x4 x5 x6 x7 x93 i H) :=
 (ct rfl (cP [1, 1, 1, 1, 0, 1, 4, 1, 3, 1, 3, 1, 3, 1, 2]) (cP [1, 1, 1, 1, 0, 1, 4, 1, 3, 1, 3, 1, 3, 1, 3]) (.tmp 151) (by kernel_rfl) (pt rfl 0 abG (by kernel_rfl)))
theorem v8 : XP x0 x1 x4 x5 x6 x7 x93 x133 H =
 av x133
 ((FF Gc [x0] H).bind fun a =>
 (ag a.1 0).bind fun b =>
 (ag a.1 1).bind fun c =>
 av b
 (st 1 [.n, .f 6] x0 (vi 5) a.2 fun d =>
 fX x4 d)
 (av c
 ((FF bJ [x0, x1, (vi 5)] a.2).bind fun e =>
 st 1 [.n, .f 6] x0 (vi 5) e.2 fun g =>
 fX x4 g)
 (fX x4 a.2)))
 ((ai .other .eql x93 (vi 5)).bind fun i =>
 XQ x0 x1 x4 x5 x6 x7 x93 i H) :=
 (ct rfl (cP [1, 1, 1, 1, 0, 1, 4, 1, 3, 1, 3, 1, 2]) (cP [1, 1, 1, 1, 0, 1, 4, 1, 3, 1, 3, 1, 3]) (.tmp 133) (by kernel_rfl) (pt rfl 0 abF (by kernel_rfl)))
theorem qG : XO x0 x1 x4 x5 x6 x7 x93 x112 H =
 av x112
 (ld [.n, .f 7] x5 H fun b =>
 ld [.n, .f 1] x0 H fun c =>
 (FF ie [b, c, x6] H).bind fun a =>
 av a.1
 (st 1 [.n, .f 6] x0 (vi 4) a.2 fun d =>
 st 1 [.n, .f 7] x0 (vi 0) d fun e =>
 st 1 [.n, .f 9] x0 (vb false) e fun g =>
 fX x4 g)
 (fX x4 a.2))
 ((ai .other .eql x93 (vi 4)).bind fun i =>
 XP x0 x1 x4 x5 x6 x7 x93 i H) :=
 (ct rfl (cP [1, 1, 1, 1, 0, 1, 4, 1, 3, 1, 2]) (cP [1, 1, 1, 1, 0, 1, 4, 1, 3, 1, 3]) (.tmp 112) (by kernel_rfl) (pt rfl 0 abE (by kernel_rfl)))
theorem pR : Tx x0 x1 x4 x5 x6 x7 x93 x97 H =
 av x97
 ((FF Gc [x0] H).bind fun a =>
 (ag a.1 0).bind fun b =>
 (ag a.1 1).bind fun c =>
 av b
 (st 1 [.n, .f 6] x0 (vi 6) a.2 fun d =>
 fX x4 d)
 (av c
 (st 1 [.n, .f 6] x0 (vi 3) a.2 fun e =>
 fX x4 e)
 (fX x4 a.2)))
 ((ai .other .eql x93 (vi 3)).bind fun g =>
 XO x0 x1 x4 x5 x6 x7 x93 g H) :=
 (ct rfl (cP [1, 1, 1, 1, 0, 1, 4, 1, 2]) (cP [1, 1, 1, 1, 0, 1, 4, 1, 3]) (.tmp 97) (by kernel_rfl) (pt rfl 0 abD (by kernel_rfl)))
theorem mD : qH x0 x1 x4 x5 x6 x7 x93 H =
 (ai .other .eql x93 (vi 2)).bind fun a =>
 Tx x0 x1 x4 x5 x6 x7 x93 a H :=
 (bt rfl (cP [1, 1, 1, 1, 0, 1, 4]) 0 ed (pt rfl 0 ajJ (by kernel_rfl)))
theorem Jk : Tv x0 x1 x4 x5 x6 x7 H =
 ld [.n, .f 6] x0 H fun a =>
 qH x0 x1 x4 x5 x6 x7 a H :=
 (pt rfl 0 dv (pt rfl 0 ajH (by kernel_rfl)))
theorem Jj : Tt x0 x1 x4 x5 x6 x7 H =
 ld [.n, .f 6] x0 H fun c =>
 (ai .other .eql c (vi 0)).bind fun d =>
 av d
 (ld [.n, .f 2, .f 2] x0 H fun e =>
 (ai .other .lss e (vi 1)).bind fun a =>
 (gV a false x0).bind fun g =>
 f0 a false  [.n, .f 2, .f 2] g H fun i =>
 (gB a false (ai .other .gtr i (vi 65536))).bind fun j =>
 (aL a (vb true) j).bind fun k =>
 av k
 ((FF bJ [x0, x1, (vi 3)] H).bind fun l =>
 some ((vb true), l.2))
 (ld [.n, .f 2, .f 1] x0 H fun m =>
 (ai .other .lss m (vi 0)).bind fun b =>
 (gV b false x0).bind fun o =>
 f0 b false  [.n, .f 2, .f 1] o H fun p =>
 (gB b false (ai .other .gtr p (vi 1048576))).bind fun q =>
 (aL b (vb true) q).bind fun s =>
 av s
 ((FF bJ [x0, x1, (vi 5)] H).bind fun t =>
 some ((vb true), t.2))
 (st 1 [.n, .f 6] x0 (vi 2) H fun w =>
 Tv x0 x1 x4 x5 x6 x7 w)))
 (Tv x0 x1 x4 x5 x6 x7 H) :=
 (pt rfl 0 ajF (by kernel_rfl))
noncomputable def rTE : OV := ba PP GG FF (cP []) (ls [x0, x1] 303) H gP bv gP
theorem avJ {r : Value × AH} (h : (
 ad [.n, .f 0] x0 fun b =>
 (ar b H).bind fun d =>
 ld [.n, .f 0] x0 H fun e =>
 ld [.n, .f 7] e H fun g =>
 ld [.n, .f 2, .f 1] x0 H fun i =>
 (FF fg [g, i] H).bind fun a =>
 bX (ar b a.2) (ar b H) <|
 ld [.n, .f 2, .f 1] x0 a.2 fun j =>
 ld [.n, .f 2, .f 2] x0 a.2 fun k =>
 ld [.n, .f 2, .f 3] x0 a.2 fun l =>
 hJ [(0, 1), (1, 1), (2, 1)] [(vi 0), (vi 0), (vi 0)] [(0, j), (1, k), (2, l)] fun m =>
 aQ [(vi 0), (vi 0), (vi 0)] a.2 fun c o =>
 (cJ 3 c m o).bind fun p =>
 Tt x0 x1 (vb false) d a.1 c p) = some r) : FF fh [x0, x1] H = some r :=
 fo (t := rTE x0 x1 H) Tryz.func46 (by kernel_rfl) (Eq.trans (pt rfl 2 ajD (by kernel_rfl)) h)
theorem CE {r : Value × AH} (h : (
 aQ [(vi 0), (.slice none 0 0), (vi 0), (vw 0)] H fun b d =>
 ld [.n, .f 7] x0 d fun g =>
 (ce g [x1]).bind fun c => (FF c.1 c.2 d).bind fun a =>
 (ag a.1 0).bind fun i =>
 (ag a.1 1).bind fun j =>
 (cJ 4 b i a.2).bind fun e =>
 (ax 4 b e).bind fun k => some (Value.tuple #[k, j], e)) = some r) : FF nk [x0, x1] H = some r :=
 fo Tryz.func47 (by kernel_rfl) h
end
end Go.Proofs.YtflbeghglllknaaGreatDoor.Gst
