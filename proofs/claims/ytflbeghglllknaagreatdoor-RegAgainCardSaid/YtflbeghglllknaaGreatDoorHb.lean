/- Several texts in one. -/
import Derived.Test.YtflbeghglllknaaGreatDoorHa
namespace Go.Proofs.YtflbeghglllknaaGreatDoor.Gst
open Go Go.RowKit
set_option linter.unusedSimpArgs false
def rP (ops : List Oper) : Bool :=
 let ms := ci ops
 ops.zipIdx.all (fun p => p.1.after.toList.all fun e => !Region.binds .any e || decide (e.on < p.2)) &&
 ops.zipIdx.all fun q => (ops.zipIdx.take q.2).all fun p => fb ms p.2 q.2 || (p.1.apart ops.toArray q.1 && !(kq p.1.op == 3 && kq q.1.op == 3))
def dR (ops : List Oper) : List (Nat × Nat) :=
 let ms := ci ops
 (ops.zipIdx.filter fun p => kq p.1.op == 2).flatMap fun p => ((ops.zipIdx.filter fun q => kq q.1.op == 3 && !fb ms q.2 p.2 && !fb ms p.2 q.2).map fun q => (p.2, q.2))
def jz (P : Program) (G : List Nat) (call : bE) (ops : Array Oper) (A : List Value) (H : AH) (i : Nat) : List Value × AH := (dh P G call ops (ops.toList.take i) A H).getD (A, H)
def jD (P : Program) (s : Nat → List Value × AH) (ops : Array Oper) (p : Nat × Nat) : Prop :=
 ∀ o, ops[p.1]? = some o → ze P (fD (s p.1).1) o.op (s (if p.2 < p.1 then p.2 else p.2 + 1)).2 = ze P (fD (s p.1).1) o.op (s p.1).2
open Classical in
noncomputable def Gr {α : Type} (p : Prop) (x : Option α) : Option α := if p then x else none
theorem nc {α : Type} {p : Prop} {x : Option α} {r : α} (h : Gr p x = some r) : p ∧ x = some r := by
 unfold Gr at h
 split at h
 ·exact ⟨by assumption, h⟩
 ·cases h
theorem j6 {α : Type} {p : Prop} (h : p) (x : Option α) : Gr p x = x := by unfold Gr; rw [if_pos h]
noncomputable def mj (P : Program) (G : List Nat) (call : bE) (ops : Array Oper) (A : List Value) (H : AH) : Option (List Value × AH) :=
 match rP ops.toList with
 | false => none
 | true => match dR ops.toList with
  | [] => dh P G call ops ops.toList A H
  | p :: ps => Gr (∀ q ∈ p :: ps, jD P (jz P G call ops A H) ops q) (dh P G call ops ops.toList A H)
theorem gk {P : Program} {G : List Nat} {call : bE} {ops : Array Oper} {A : List Value} {H : AH} {r : List Value × AH} (h : mj P G call ops A H = some r) :
 rP ops.toList = true ∧ (∀ p ∈ dR ops.toList, jD P (jz P G call ops A H) ops p) ∧ dh P G call ops ops.toList A H = some r := by
 unfold mj at h
 cases h1 : rP ops.toList with
 | false => rw [h1] at h; cases h
 | true =>
  rw [h1] at h;refine ⟨rfl, ?_⟩
  cases h2 : dR ops.toList with
  | nil => rw [h2] at h; exact ⟨fun p hp => (by cases hp), h⟩
  | cons p ps =>
   rw [h2] at h;exact nc h
section
variable {P : Program} {w0 : World} {B : Nat} {ρ : bL} {H : AH} {w : World} {G : List Nat} {call : bE} {ops : Array Oper}
theorem wL (l1 l2 : List Oper) (A : List Value) (H : AH) : dh P G call ops (l1 ++ l2) A H = (dh P G call ops l1 A H).bind fun s => dh P G call ops l2 s.1 s.2 := by
 induction l1 generalizing A H with
 | nil => rfl
 | cons o l ih =>
  simp only [List.cons_append, dh];rw [Option.bind_assoc]
  congr 1
  funext s
  exact ih s.1 s.2
theorem u7 {A : List Value} {r : List Value × AH} (h : dh P G call ops ops.toList A H = some r) (i : Nat) : dh P G call ops (ops.toList.take i) A H = some (jz P G call ops A H i) := by
 unfold jz;have e : ops.toList = ops.toList.take i ++ ops.toList.drop i := (List.take_append_drop ..).symm;rw [e, wL] at h;obtain ⟨s, hs, _⟩ := aE.1 h;rw [hs]; rfl
theorem UN (A : List Value) : jz P G call ops A H 0 = (A, H) := rfl
theorem Xj {A : List Value} {r : List Value × AH} (h : dh P G call ops ops.toList A H = some r) : jz P G call ops A H ops.size = r := by
 unfold jz;rw [show ops.size = ops.toList.length by simp, List.take_length, h]
 rfl
theorem HQ {A : List Value} {r : List Value × AH} (h : dh P G call ops ops.toList A H = some r) {i : Nat} {o : Oper} (ho : ops[i]? = some o) :
 gl P G call ops o (jz P G call ops A H i).1 (jz P G call ops A H i).2 = some (jz P G call ops A H (i + 1)) := by
 have ho' : ops.toList[i]? = some o := by simpa using ho
 have h1 := u7 h (i + 1);rw [List.take_add_one, ho', Option.toList_some, wL, u7 h i] at h1;simp only [bG, dh] at h1;obtain ⟨s, hs, e⟩ := aE.1 h1;rw [hs];exact e
noncomputable def Z3 (P : Program) (G : List Nat) (call : bE) (ops : Array Oper) (A : List Value) (H : AH) (i : Nat) : Value :=
 match ops[i]? with
 | some o => if Region.wanted o (dG ops (jz P G call ops A H i).1) = true then ((eH P call (fD (jz P G call ops A H i).1) o (jz P G call ops A H i).2).map (·.1)).getD undef else undef
 | none => undef
theorem Kg (h : rP ops.toList = true) : ∀ j o, ops[j]? = some o → ∀ e ∈ o.after, Region.binds .any e = true → e.on < j := by
 intro j o ho e he hb;unfold rP at h;simp only [Bool.and_eq_true, List.all_eq_true] at h
 have ho' : ops.toList[j]? = some o := by simpa using ho
 have hm : (o, j) ∈ ops.toList.zipIdx := by
  rw [List.mem_iff_getElem?];exact ⟨j, by rw [List.getElem?_zipIdx, ho']; simp⟩
 have := h.1 (o, j) hm e (by simpa using he)
 simpa [hb] using this
theorem Kh (h : rP ops.toList = true) : ∀ i j oi oj, i < j → ops[i]? = some oi → ops[j]? = some oj → fb (ci ops.toList) i j = true ∨ (oi.apart ops oj = true ∧ ¬ (kq oi.op = 3 ∧ kq oj.op = 3)) := by
 intro i j oi oj hij hi hj;unfold rP at h;simp only [Bool.and_eq_true, List.all_eq_true] at h
 have hi' : ops.toList[i]? = some oi := by simpa using hi
 have hj' : ops.toList[j]? = some oj := by simpa using hj
 have hm : (oj, j) ∈ ops.toList.zipIdx := by
  rw [List.mem_iff_getElem?];exact ⟨j, by rw [List.getElem?_zipIdx, hj']; simp⟩
 have hm2 : (oi, i) ∈ ops.toList.zipIdx.take j := by
  rw [List.mem_iff_getElem?];exact ⟨i, by rw [List.getElem?_take, if_pos hij, List.getElem?_zipIdx, hi']; simp⟩
 have := h.2 (oj, j) hm (oi, i) hm2;simp only [Bool.or_eq_true, Bool.and_eq_true, Bool.not_eq_true', Bool.and_eq_false_iff, beq_eq_false_iff_ne, Array.toArray_toList] at this
 rcases this with h1 | ⟨h1, h2⟩
 ·exact .inl h1
 ·exact .inr ⟨h1, fun h3 => by rcases h2 with h2 | h2; exact h2 h3.1; exact h2 h3.2⟩
theorem B2 {j e : Nat} {oj oe : Oper} (hj : ops[j]? = some oj) (he : ops[e]? = some oe) (h2 : kq oj.op = 2) (h3 : kq oe.op = 3) (hf1 : fb (ci ops.toList) e j = false) (hf2 : fb (ci ops.toList) j e = false) : (j, e) ∈ dR ops.toList := by
 have hj' : ops.toList[j]? = some oj := by simpa using hj
 have he' : ops.toList[e]? = some oe := by simpa using he
 unfold dR;simp only [List.mem_flatMap, List.mem_filter, List.mem_map];refine ⟨(oj, j), ⟨?_, by simp [h2]⟩, (oe, e), ⟨?_, by simp [h3, hf1, hf2]⟩, rfl⟩
 ·rw [List.mem_iff_getElem?]; exact ⟨j, by rw [List.getElem?_zipIdx, hj']; simp⟩
 ·rw [List.mem_iff_getElem?]; exact ⟨e, by rw [List.getElem?_zipIdx, he']; simp⟩
noncomputable def Yb {A : List Value} {r : List Value × AH} (h : mj P G call ops A H = some r) : Tra P G call ops where
 s := jz P G call ops A H
 val := Z3 P G call ops A H
 step := fun i o ho => by
  obtain ⟨_, _, hr⟩ := gk h;have hs := HQ hr ho;unfold gl at hs
  split at hs
  ·rename_i hok
   refine ⟨hok, ?_⟩;unfold Z3;rw [ho];simp only
   split at hs
   ·rename_i hw
    obtain ⟨⟨v, H2⟩, hv, e⟩ := be.1 hs;rw [if_pos hw, hv, ← e];exact ⟨rfl, .inl ⟨hw, rfl⟩⟩
   ·rename_i hw
    rw [if_neg hw];have e := (hF hs).symm;rw [e];exact ⟨rfl, .inr ⟨by simpa using hw, rfl, rfl⟩⟩
  ·cases hs
 back := Kg (gk h).1
 pair := Kh (gk h).1
 look := fun j e oj oe hj he h2 h3 hf1 hf2 => (gk h).2.1 (j, e) (B2 hj he h2 h3 hf1 hf2) oj hj
theorem IM (hcall : lD P G call) (hmono : hZ call) (hm : P.follows .mixedOrders = true) {id : Nat} {Q : Exit → Act → World → Prop} {A : List Value} {a : Act} {A' : List Value} {H' : AH} (h : mj P G call ops A H = some (A', H'))
 (hA : cy P ρ A a) (hG : GlobRel ρ G) (hR : Rel P w0 B ρ H w) (hQ : ∀ a' w', y7 P w0 B G ρ H w A' H' a' w' → Q .normal a' w') : (Code.region id ops true).wp P Q a w := by
 have W : Way (Yb h) w0 B ρ w.drew := ⟨hcall, hmono, hG, hR.drew, ⟨a, hA⟩⟩;refine Kl W hm (w := w) rfl hA (fun a' w' hp => hQ a' w' ?_);obtain ⟨ρ', h1, h2, h3, h4⟩ := hp;have e : (Yb h).s ops.size = (A', H') := Xj (gk h).2.2;rw [e] at h1 h3 h4;exact ⟨ρ', h1, h2, iT.of_drew h3, h4⟩
end
inductive AE where
 | normal
 | exit (id : Nat)
 | ret
deriving DecidableEq
abbrev AR := AE × List Value × AH
def eY (f : List Value → AH → Option AR) : Nat → List Value → AH → Option AR
 | 0, _, _ => none
 | n + 1, A, H => (f A H).bind fun r => match r.1 with
  | .normal => eY f n r.2.1 r.2.2
  | _ => some r
theorem zc {f : List Value → AH → Option AR} {n : Nat} {A : List Value} {H : AH} {r : AR} (h : eY f n A H = some r) : ∀ m, n ≤ m → eY f m A H = some r := by
 induction n generalizing A H with
 | zero => cases h
 | succ n ih =>
  intro m hm;obtain ⟨m, rfl⟩ : ∃ k, m = k + 1 := ⟨m - 1, by omega⟩;simp only [eY] at h ⊢;obtain ⟨s, hs, h⟩ := aE.1 h;rw [hs];simp only [bG]
  split at h
  ·exact ih h m (by omega)
  ·exact h
open Classical in
noncomputable def oF (f : List Value → AH → Option AR) (A : List Value) (H : AH) : Option AR := if h : ∃ n r, eY f n A H = some r then some h.choose_spec.choose else none
theorem dg {f : List Value → AH → Option AR} {A : List Value} {H : AH} {r : AR} : oF f A H = some r ↔ ∃ n, eY f n A H = some r := by
 unfold oF
 constructor
 ·intro h
  split at h
  ·rename_i hx
   cases h;exact ⟨_, hx.choose_spec.choose_spec⟩
  ·cases h
 ·rintro ⟨n, hn⟩
  have hx : ∃ n r, eY f n A H = some r := ⟨n, r, hn⟩;rw [dif_pos hx];have h1 := zc hx.choose_spec.choose_spec (max n hx.choose) (Nat.le_max_right ..);have h2 := zc hn (max n hx.choose) (Nat.le_max_left ..);rw [h2] at h1;exact h1.symm
theorem Q6 (f : List Value → AH → Option AR) (A : List Value) (H : AH) : oF f A H = (f A H).bind fun r => match r.1 with | .normal => oF f r.2.1 r.2.2 | _ => some r := by
 apply Option.ext;intro r;rw [dg]
 constructor
 ·rintro ⟨n, hn⟩
  cases n with
  | zero => cases hn
  | succ n =>
   simp only [eY] at hn;obtain ⟨s, hs, h⟩ := aE.1 hn;rw [hs];simp only [bG]
   split at h
   ·exact dg.2 ⟨n, h⟩
   ·exact h
 ·intro h
  obtain ⟨s, hs, h⟩ := aE.1 h
  split at h
  ·rename_i e
   obtain ⟨n, hn⟩ := dg.1 h;refine ⟨n + 1, ?_⟩;simp only [eY, hs, bG, e];exact hn
  ·rename_i e
   refine ⟨1, ?_⟩;simp only [eY, hs, bG];exact h
noncomputable def f6 (P : Program) (G : List Nat) (call : bE) (ops : Array Oper) (draw : Bool) (A : List Value) (H : AH) : Option (List Value × AH) :=
 match draw with
 | true => mj P G call ops A H
 | false => dh P G call ops ops.toList A H
noncomputable def aW (P : Program) (G : List Nat) (call : bE) : Code → List Value → AH → Option AR
 | .skip, A, H => some (.normal, A, H)
 | .label _, A, H => some (.normal, A, H)
 | .region _ ops draw, A, H => (f6 P G call ops draw A H).map fun s => (.normal, s.1, s.2)
 | .seq x y, A, H => (aW P G call x A H).bind fun r => match r.1 with
  | .normal => aW P G call y r.2.1 r.2.2
  | _ => some r
 | .cond c x y, A, H => match fD A c with
  | .bool true => aW P G call x A H
  | .bool false => aW P G call y A H
  | _ => none
 | .block id x, A, H => (aW P G call x A H).map fun r => match r.1 with
  | .exit i => if i = id then (.normal, r.2.1, r.2.2) else r
  | _ => r
 | .loop x, A, H => oF (aW P G call x) A H
 | .exit id, A, H => some (.exit id, A, H)
 | .ret, A, H => some (.ret, A, H)
 | _, _, _ => none
def AE.to : AE → Exit
 | .normal => .normal
 | .exit id => .exit id
 | .ret => .ret
section
variable {P : Program} {w0 : World} {B : Nat} {G : List Nat} {call : bE}
theorem y7.trans {ρ ρ1 : bL} {H H1 H2 : AH} {w w1 w2 : World} {A2 : List Value} {a2 : Act} (hR : Rel P w0 B ρ H w) (hE : iT ρ H w ρ1 H1 w1) (h : y7 P w0 B G ρ1 H1 w1 A2 H2 a2 w2) : y7 P w0 B G ρ H w A2 H2 a2 w2 := by
 obtain ⟨ρ', h1, h2, h3, h4⟩ := h;exact ⟨ρ', h1, h2, hE.trans hR h3, h4⟩
theorem zx (hcall : lD P G call) (hmono : hZ call) (hm : P.follows .mixedOrders = true) : ∀ (c : Code) {Q : Exit → Act → World → Prop} {ρ : bL} {A : List Value} {H : AH} {a : Act} {w : World} {e : AE} {A' : List Value} {H' : AH},
 aW P G call c A H = some (e, A', H') → cy P ρ A a → GlobRel ρ G → Rel P w0 B ρ H w → (∀ a' w', y7 P w0 B G ρ H w A' H' a' w' → Q e.to a' w') → c.wp P Q a w := by
 intro c
 induction c with
 | skip =>
  intro Q ρ A H a w e A' H' h hA hG hR hQ;simp only [aW] at h; cases h;exact wp_skip (hQ a w ⟨ρ, hA, hG, iT.refl _ _ _, hR⟩)
 | label l =>
  intro Q ρ A H a w e A' H' h hA hG hR hQ;simp only [aW] at h; cases h;exact wp_label (hQ a w ⟨ρ, hA, hG, iT.refl _ _ _, hR⟩)
 | exit id =>
  intro Q ρ A H a w e A' H' h hA hG hR hQ;simp only [aW] at h; cases h;exact wp_exit (hQ a w ⟨ρ, hA, hG, iT.refl _ _ _, hR⟩)
 | ret =>
  intro Q ρ A H a w e A' H' h hA hG hR hQ;simp only [aW] at h; cases h;exact wp_ret (hQ a w ⟨ρ, hA, hG, iT.refl _ _ _, hR⟩)
 | region id ops draw =>
  intro Q ρ A H a w e A' H' h hA hG hR hQ;simp only [aW] at h;obtain ⟨⟨A1, H1⟩, hs, e1⟩ := be.1 h;cases e1
  cases draw with
  | true => exact IM hcall hmono hm hs hA hG hR hQ
  | false => exact HH hcall hs hA hG hR hQ
 | seq x y ihx ihy =>
  intro Q ρ A H a w e A' H' h hA hG hR hQ;simp only [aW] at h;obtain ⟨⟨e1, A1, H1⟩, hx, h⟩ := aE.1 h;refine wp_seq (ihx hx hA hG hR (fun a1 w1 hp => ?_))
  cases e1 with
  | normal =>
   simp only at h;obtain ⟨ρ1, hA1, hG1, hE1, hR1⟩ := hp;exact ihy h hA1 hG1 hR1 (fun a' w' hp => hQ a' w' (hp.trans hR hE1))
  | exit id => simp only at h; cases h; exact hQ a1 w1 hp
  | ret => simp only at h; cases h; exact hQ a1 w1 hp
 | cond c x y ihx ihy =>
  intro Q ρ A H a w e A' H' h hA hG hR hQ;simp only [aW] at h
  have hc : ∀ t, fD A c = .bool t → a.eval c = .bool t := by
   intro t ht
   cases c with
   | tmp u =>
    simp only [fD] at ht
    cases hx : A[u]? with
    | none => rw [hx] at ht; simp [undef] at ht
    | some x =>
     rw [hx] at ht;simp only [Option.getD_some] at ht;subst ht;obtain ⟨y, hy, hv⟩ := hA.tmps.get hx;rw [Array.getElem?_toList] at hy;simp only [Act.eval, Array.getD_eq_getD_getElem?, hy, Option.getD_some];exact hv.bool_inv
   | const v => exact ht
   | global g => cases ht
   | func f => cases ht
  split at h
  ·rename_i ht; exact wp_cond (hc _ ht) (ihx h hA hG hR hQ)
  ·rename_i ht; exact wp_cond (hc _ ht) (ihy h hA hG hR hQ)
  ·cases h
 | block id x ih =>
  intro Q ρ A H a w e A' H' h hA hG hR hQ;simp only [aW] at h;obtain ⟨⟨e1, A1, H1⟩, hx, e2⟩ := be.1 h;refine wp_block (ih hx hA hG hR (fun a1 w1 hp => ?_))
  cases e1 with
  | normal => simp only at e2; cases e2; exact hQ a1 w1 hp
  | ret => simp only at e2; cases e2; exact hQ a1 w1 hp
  | exit i =>
   simp only at e2;simp only [AE.to, Exit.inBlock]
   split at e2
   ·rename_i hi; cases e2; rw [if_pos hi]; exact hQ a1 w1 hp
   ·rename_i hi; cases e2; rw [if_neg hi]; exact hQ a1 w1 hp
 | loop x ih =>
  intro Q ρ A H a w e A' H' h hA hG hR hQ;simp only [aW] at h;obtain ⟨n, hn⟩ := dg.1 h;refine wp_loop_rounds n ?_
  clear h
  induction n generalizing ρ A H a w with
  | zero => cases hn
  | succ n ihn =>
   simp only [eY] at hn;obtain ⟨⟨e1, A1, H1⟩, hx, h⟩ := aE.1 hn;rw [rounds_succ];refine ih hx hA hG hR (fun a1 w1 hp => ?_)
   cases e1 with
   | normal =>
    simp only at h;obtain ⟨ρ1, hA1, hG1, hE1, hR1⟩ := hp;exact ihn hA1 hG1 hR1 (fun a' w' hp => hQ a' w' (hp.trans hR hE1)) h
   | exit id => simp only at h; cases h; exact hQ a1 w1 hp
   | ret => simp only at h; cases h; exact hQ a1 w1 hp
 | rangeFunc f ps x y => intro Q ρ A H a w e A' H' h; simp [aW] at h
 | scope x => intro Q ρ A H a w e A' H' h; simp [aW] at h
 | goto l => intro Q ρ A H a w e A' H' h; simp [aW] at h
 | refuse s => intro Q ρ A H a w e A' H' h; simp [aW] at h
theorem qF (hm : hZ call) {ops : Array Oper} : ∀ (l : List Oper) {A : List Value} {H : AH} {r : List Value × AH}, dh P G call ops l A H = some r → H.size ≤ r.2.size := by
 intro l
 induction l with
 | nil => intro A H r h; simp only [dh] at h; cases h; exact bK _
 | cons o l ih =>
  intro A H r h;simp only [dh] at h;obtain ⟨s, hs, h⟩ := aE.1 h;refine fF ?_ (ih h);unfold gl at hs
  split at hs
  ·split at hs
   ·obtain ⟨⟨v, H2⟩, hv, e⟩ := be.1 hs
    cases e; exact F2 hm hv
   ·cases hs; exact bK _
  ·cases hs
theorem za (hm : hZ call) : ∀ (c : Code) {A : List Value} {H : AH} {r : AR}, aW P G call c A H = some r → H.size ≤ r.2.2.size := by
 intro c
 induction c with
 | skip => intro A H r h; simp only [aW] at h; cases h; exact bK _
 | label l => intro A H r h; simp only [aW] at h; cases h; exact bK _
 | exit id => intro A H r h; simp only [aW] at h; cases h; exact bK _
 | ret => intro A H r h; simp only [aW] at h; cases h; exact bK _
 | region id ops draw =>
  intro A H r h;simp only [aW] at h;obtain ⟨s, hs, e1⟩ := be.1 h;cases e1
  cases draw with
  | true => exact qF hm _ (gk hs).2.2
  | false => exact qF hm _ hs
 | seq x y ihx ihy =>
  intro A H r h;simp only [aW] at h;obtain ⟨s, hx, h⟩ := aE.1 h;have h1 := ihx hx
  split at h
  ·exact fF h1 (ihy h)
  ·cases h; exact h1
 | cond c x y ihx ihy =>
  intro A H r h;simp only [aW] at h
  split at h
  ·exact ihx h
  ·exact ihy h
  ·cases h
 | block id x ih =>
  intro A H r h;simp only [aW] at h;obtain ⟨s, hx, e2⟩ := be.1 h;have h1 := ih hx
  split at e2
  ·split at e2 <;> (subst e2; exact h1)
  ·subst e2; exact h1
 | loop x ih =>
  intro A H r h;simp only [aW] at h;obtain ⟨n, hn⟩ := dg.1 h
  clear h
  induction n generalizing A H with
  | zero => cases hn
  | succ n ihn =>
   simp only [eY] at hn;obtain ⟨s, hx, h⟩ := aE.1 hn;have h1 := ih hx
   split at h
   ·exact fF h1 (ihn h)
   ·cases h; exact h1
 | rangeFunc f ps x y => intro A H r h; simp [aW] at h
 | scope x => intro A H r h; simp [aW] at h
 | goto l => intro A H r h; simp [aW] at h
 | refuse s => intro A H r h; simp [aW] at h
end
def kQ (P : Program) (A : List Value) (H : AH) : ResultVar → Option Value
 | .tmp t => some (A[t]?.getD undef)
 | .cell a t => (fB P t).bind fun g => match g with
  | some n => aA n (A[a]?.getD undef) H
  | none => ar (A[a]?.getD undef) H
def rH (P : Program) (A : List Value) (H : AH) : List ResultVar → Option (List Value)
 | [] => some []
 | r :: rs => (kQ P A H r).bind fun v => (rH P A H rs).bind fun vs => some (v :: vs)
def iV (P : Program) (A : List Value) (H : AH) (rs : List ResultVar) : Option Value := (rH P A H rs).map fun vs => match vs with
 | [v] => v
 | vs => .tuple vs.toArray
def Q5 (P : Program) (rs : List ResultVar) (r : AR) : Option (Value × AH) :=
 match r.1 with
 | .exit _ => none
 | _ => (iV P r.2.1 r.2.2 rs).map (·, r.2.2)
noncomputable def oE (P : Program) (G : List Nat) (call : bE) (n : Nat) (rs : List ResultVar) (c : Code) (args : List Value) (H : AH) : Option (Value × AH) :=
 (aW P G call c (args ++ List.replicate (n - args.length) undef) H).bind (Q5 P rs)
structure DSh where
 c1 : Code
 id2 : Nat
 ops2 : Array Oper
 om : Oper
 df : Oper
 t : Nat
 k : Nat
 id3 : Nat
 ops3 : Array Oper
def ku : Code → Option DSh
 | .seq c1 (.seq (.region id2 ops2 false) (.seq (.region id3 ops3 false) .ret)) => match ops2.toList with
  | [mk, df] => match mk.dst, mk.op, mk.guard, df.dst, df.op, df.guard with
   | some t, .makeFunc (.func k) first _, none, none, .defer ⟨.value (.tmp t'), args, _⟩, none => if t = t' ∧ first = #[] ∧ args = #[] then some ⟨c1, id2, ops2, mk, df, t, k, id3, ops3⟩ else none
   | _, _, _, _, _, _ => none
  | _ => none
 | _ => none
theorem Gy {c : Code} {s : DSh} (h : ku c = some s) : c = .seq s.c1 (.seq (.region s.id2 s.ops2 false) (.seq (.region s.id3 s.ops3 false) .ret)) ∧ s.ops2.toList = [s.om, s.df] ∧ s.om.dst = some s.t ∧
 (∃ cap, s.om.op = .makeFunc (.func s.k) #[] cap) ∧ s.om.guard = none ∧ s.df.dst = none ∧ (∃ ats, s.df.op = .defer ⟨.value (.tmp s.t), #[], ats⟩) ∧ s.df.guard = none := by
 unfold ku at h
 split at h
 ·split at h
  ·rename_i hl
   split at h
   ·rename_i h1 h2 h3 h4 h5 h6
    split at h
    ·rename_i hc
     obtain ⟨rfl, rfl, rfl⟩ := hc;cases h;exact ⟨rfl, hl, h1, ⟨_, h2⟩, h3, h4, ⟨_, h5⟩, h6⟩
    ·cases h
   ·cases h
  ·cases h
 ·cases h
def tr (P : Program) (k : Nat) : Prop :=
 (∃ fn, P.funcs[k]? = some fn ∧ fn.body.isSome = true ∧ fn.name ≠ "runtime.NumGoroutine") ∧
 ∀ (args : Array Value) (w : World), CallsD P k args .returning w fun e u' w' => (∃ v, e = .returned v) ∧ u' = .returning ∧ w' = w
noncomputable def nR (P : Program) (G : List Nat) (call : bE) (n : Nat) (rs : List ResultVar) (s : DSh) (args : List Value) (H : AH) : Option (Value × AH) :=
 (aW P G call s.c1 (args ++ List.replicate (n - args.length) undef) H).bind fun r => match r.1 with
  | .normal => if r.2.1.length ≤ s.t then none else (gl P G call s.ops2 s.om r.2.1 r.2.2).bind fun q => (dh P G call s.ops3 s.ops3.toList q.1 q.2).bind fun z => (iV P z.1 z.2 rs).map (·, z.2)
  | _ => none
noncomputable def fA (P : Program) (G : List Nat) : Nat → bE
 | 0 => fun _ _ _ => none
 | d + 1 => fun f args H => match P.funcs[f]? with
  | some fn => if fn.name = "runtime.NumGoroutine" then none else match fn.body with
   | some c => match ku c with
    | none => oE P G (fA P G d) fn.ntmps fn.results.toList c args H
    | some s => Gr (tr P s.k) (nR P G (fA P G d) fn.ntmps fn.results.toList s args H)
   | none => none
  | none => none
section
variable {P : Program} {w0 : World} {B : Nat} {ρ : bL} {H : AH} {w : World} {G : List Nat} {call : bE}
theorem Kq {A : List Value} {a : Act} (hA : cy P ρ A a) (hR : Rel P w0 B ρ H w) {r : ResultVar} {v : Value} (h : kQ P A H r = some v) :
 ∃ v', (match r with | .tmp t => pure (a.tmps.getD t undef) | .cell x t => do loadVar t (← asAddr (a.tmps.getD x undef)) : Sem Value).run P w = .ok v' w ∧ VRel P ρ v v' := by
 have slot : ∀ t, VRel P ρ (A[t]?.getD undef) (a.tmps.getD t undef) := fun t => vB (G := []) hA (fun g hg => by simp at hg) (x := .tmp t) rfl
 cases r with
 | tmp t => simp only [kQ] at h; cases h; exact ⟨_, rfl, slot t⟩
 | cell x t =>
  simp only [kQ] at h;obtain ⟨g, hg, h⟩ := aE.1 h
  cases g with
  | none =>
   obtain ⟨a', y', ha, hr, hv⟩ := Tv hR h (slot x);refine ⟨y', ?_, hv⟩;simp only [ha];simp [asAddr, loadVar, nS hg]
   simpa using hr
  | some n =>
   obtain ⟨a', ys, ha, hr, hv⟩ := Ha hR h (slot x);obtain ⟨hag, hsz⟩ := nT hg w;refine ⟨.agg ys, ?_, hv⟩;simp only [ha];simp [asAddr, loadVar, hag, cZ hsz, hr]
theorem TA {A : List Value} {a : Act} (hA : cy P ρ A a) (hR : Rel P w0 B ρ H w) : ∀ {rs : List ResultVar} {vs : List Value}, rH P A H rs = some vs →
 ∃ vs', (rs.mapM (fun r => (match r with | .tmp t => pure (a.tmps.getD t undef) | .cell x t => do loadVar t (← asAddr (a.tmps.getD x undef)) : Sem Value))).run P w = .ok vs' w ∧ LRel P ρ vs vs' := by
 intro rs
 induction rs with
 | nil => intro vs h; simp only [rH] at h; cases h; exact ⟨[], rfl, LRel.nil⟩
 | cons r rs ih =>
  intro vs h;simp only [rH] at h;obtain ⟨v, hv, h⟩ := aE.1 h;obtain ⟨vs0, hvs, h⟩ := aE.1 h;cases h;obtain ⟨v', hr, hv'⟩ := Kq hA hR hv;obtain ⟨vs', hrs, hvs'⟩ := ih hvs;refine ⟨v' :: vs', ?_, hvs'.cons hv'⟩;rw [List.mapM_cons];simp only [Sem.run_bind, hr, Result.andThen_ok, hrs, Sem.run_pure]
theorem w9 {A : List Value} {a : Act} (hA : cy P ρ A a) (hR : Rel P w0 B ρ H w) {fn : Func} {v : Value} (h : iV P A H fn.results.toList = some v) :
 ∃ v', (results fn a.tmps).run P w = .ok v' w ∧ VRel P ρ v v' := by
 unfold iV at h;obtain ⟨vs, hvs, e⟩ := be.1 h;obtain ⟨vs', hrun, hl⟩ := TA hA hR hvs
 have hm : ∀ g : ResultVar → Sem Value, (fn.results.mapM g).run P w = ((fn.results.toList.mapM g >>= fun l => pure l.toArray : Sem (Array Value))).run P w := by
  intro g;rw [Array.mapM_eq_mapM_toList]
  rfl
 have h2 : (results fn a.tmps).run P w = .ok (if h : vs'.toArray.size = 1 then vs'.toArray[0] else .tuple vs'.toArray) w := by
  unfold results;rw [Sem.run_bind, hm, Sem.run_bind]
  erw [hrun]
  rfl
 refine ⟨_, h2, ?_⟩;have hlen := hl.1
 split at e
 ·rename_i x
  subst e
  match vs', hlen, hl with
  | [y], _, hl => simpa using hl.2 0 _ _ rfl rfl
 ·rename_i hne
  subst e
  have : ¬ vs'.toArray.size = 1 := by
   intro h1
   match vs, hlen, hne with
   | [x], _, hne => exact hne x rfl
   | [], hlen, _ => simp at hlen h1; omega
   | x :: y :: zs, hlen, _ => simp at hlen h1; omega
  rw [dif_neg this];exact .tuple (by simp [hlen]) (fun i x y hx hy => hl.2 i x y (by simpa using hx) (by simpa using hy))
theorem JO (hcall : lD P G call) {ops : Array Oper} (ds : List Deferred) {Q : Exit → Act → World → Prop} : ∀ (l : List Oper) {ρ : bL} {A : List Value} {H : AH} {a : Act} {w : World} {A' : List Value} {H' : AH}, dh P G call ops l A H = some (A', H') →
 cy P ρ A a → GlobRel ρ G → Rel P w0 B ρ H w → (∀ a' w', y7 P w0 B G ρ H w A' H' a' w' → Q .normal { a' with defers := ds } w') → wpList P ops Q l { a with defers := ds } w := by
 intro l
 induction l with
 | nil =>
  intro ρ A H a w A' H' h hA hG hR hQ;simp only [dh] at h;cases h;exact hQ a w ⟨ρ, hA, hG, iT.refl _ _ _, hR⟩
 | cons o rest ih =>
  intro ρ A H a w A' H' h hA hG hR hQ;simp only [dh] at h;obtain ⟨⟨A1, H1⟩, hs, h⟩ := aE.1 h;simp only at h;unfold gl at hs
  split at hs
  ·rename_i hok
   unfold wpList;have hwr := tm hA ops o;rw [show Region.wanted o (yielded ops ({ a with defers := ds } : Act).tmps) = Region.wanted o (dG ops A) from hwr]
   split at hs
   ·rename_i hw
    rw [if_pos hw];obtain ⟨⟨v, H2⟩, ho, e⟩ := be.1 hs;cases e;have hr := ut hcall hA hG hR hok ho;refine .inl (eV.wp (a := { a with defers := ds }) (eV.congr hr rfl) (fun v' w' hv => ?_));obtain ⟨ρ', hv, hE, hR'⟩ := hv;have := ih (a := a.put o.dst v') h (j2 (hA.mono hE.le) o.dst hv) (hG.mono hE.le) hR' (fun a' w'' hp => hQ a' w'' (hp.trans hR hE))
    have e : ({ a.put o.dst v' with defers := ds } : Act) = ({ a with defers := ds } : Act).put o.dst v' := by cases o.dst <;> rfl
    rw [e] at this;exact this
   ·rename_i hw
    rw [if_neg hw];cases hs;have := ih (a := a.put o.dst undef) h (j2 hA o.dst VRel.undef) hG hR hQ
    have e : ({ a.put o.dst undef with defers := ds } : Act) = ({ a with defers := ds } : Act).put o.dst undef := by cases o.dst <;> rfl
    rw [e] at this;exact this
  ·cases hs
theorem Gx (hcall : lD P G call) (hmono : hZ call) (hm : P.follows .mixedOrders = true) {f : Nat} {fn : Func} {c : Code} {s : DSh} (hf : P.funcs[f]? = some fn) (hb : fn.body = some c) (hd : ku c = some s)
 {args : List Value} {args' : Array Value} {v : Value} {H' : AH} (h : Gr (tr P s.k) (nR P G call fn.ntmps fn.results.toList s args H) = some (v, H'))
 (hA : cy P ρ (args ++ List.replicate (fn.ntmps - args.length) undef) { tmps := args' ++ Array.replicate (fn.ntmps - args'.size) undef, defers := [] }) (hG : GlobRel ρ G) (hR : Rel P w0 B ρ H w) :
 Calls P f args' w fun e w' => ∃ v' ρ', e = .returned v' ∧ VRel P ρ' v v' ∧ iT ρ H w ρ' H' w' ∧ Rel P w0 B ρ' H' w' := by
 obtain ⟨⟨⟨fk, hfk, hbk, hnk⟩, hcd⟩, h⟩ := nc h;obtain ⟨hc, hl2, hdst, ⟨cap, hop⟩, hg, hdd, ⟨ats, hdo⟩, hdg⟩ := Gy hd;unfold nR at h;obtain ⟨⟨e1, A1, H1⟩, h1, h⟩ := aE.1 h
 cases e1 with
 | exit i => cases h
 | ret => cases h
 | normal =>
  simp only at h
  split at h
  ·cases h
  rename_i hlt
  obtain ⟨⟨A2, H2⟩, h2, h⟩ := aE.1 h;obtain ⟨⟨A3, H3⟩, h3, h⟩ := aE.1 h;obtain ⟨x, hx, e⟩ := be.1 h;cases e;refine calls_of_wp_defers hf hb ?_;rw [hc];refine wp_seq (zx hcall hmono hm s.c1 h1 hA hG hR (fun a1 w1 hp => ?_));obtain ⟨ρ1, hA1, hG1, hE1, hR1⟩ := hp;refine wp_seq (wp_region_list ?_);rw [hl2];have hd1 : a1.defers = [] := hA1.defers;unfold gl at h2
  split at h2
  ·rename_i hok
   have hwt : Region.wanted s.om (dG s.ops2 A1) = true := by simp [Region.wanted, hg]
   rw [if_pos hwt] at h2;obtain ⟨⟨y, H2'⟩, ho, e⟩ := be.1 h2;cases e;refine wpList_plain hg (fun K hK => eV.wp (ut hcall hA1 hG1 hR1 hok ho) (fun v' w2 hv => hK _ _ ?_));obtain ⟨ρ2, hv, hE2, hR2⟩ := hv
   have hy : y = .func (.func s.k) #[] (cap.map (fD A1)) := by
    unfold eH at ho;rw [hop] at ho;simp at ho;exact ho.1.symm
   rw [hy] at hv;obtain ⟨f', c', rfl, hf', _⟩ := hv.func_inv
   have hf0 : f' = #[] := by
    have := hf'.1;simp at this;exact Array.eq_empty_of_size_eq_zero (by simpa using this.symm)
   subst hf0;refine wpList_plain hdg (fun K' hK' => ?_)
   have ht : (a1.put s.om.dst (.func (.func s.k) #[] c')).eval (.tmp s.t) = .func (.func s.k) #[] c' := by
    have hsz : s.t < a1.tmps.size := by have := hA1.tmps.1; simp at this; omega
    rw [hdst];simp [Act.put, Act.eval, hsz, Array.getD]
   have hrun : (execOp (a1.put s.om.dst (.func (.func s.k) #[] c')).eval s.df).run P w2 = .ok (.defer { target := .fn (.func s.k) c', args := #[] }) w2 := by
    simp [execOp, hdo, resolve, ht, Deferred.ofValue]
   unfold Oper.wp;rw [hrun, Oper.upon_defer];refine hK' _ _ (wpList_nil ?_);rw [hdd];have hA2 := j2 (hA1.mono hE2.le) s.om.dst hv
   have hpd : ∀ (a : Act) (d : Option Tmp) (x : Value), (a.put d x).defers = a.defers := by intro a d x; cases d <;> rfl
   have e : ({ a1.put s.om.dst (.func (.func s.k) #[] c') with defers := { target := .fn (.func s.k) c', args := #[] } :: (a1.put s.om.dst (.func (.func s.k) #[] c')).defers } : Act).put none undef
    = { a1.put s.om.dst (.func (.func s.k) #[] c') with defers := [{ target := .fn (.func s.k) c', args := #[] }] } := by
    rw [hpd, hd1]; rfl
   rw [e];show (Code.seq (.region s.id3 s.ops3 false) .ret).wp P _ _ _;rw [hy] at h3;refine wp_seq (wp_region_list (JO hcall _ _ h3 hA2 (hG1.mono hE2.le) hR2 (fun a3 w3 hp => ?_)));obtain ⟨ρ3, hA3, hG3, hE3, hR3⟩ := hp;refine wp_ret ?_;obtain ⟨v3, hr3, hv3⟩ := w9 hA3 hR3 hx
   have hbn : ¬ (fk.body = none) := by intro hb; rw [hb] at hbk; cases hbk
   refine leaves_cons (f := s.k) (args := c') (by simp) (by simp [invoke, callFunc, hfk, hnk, hbn]) (CallsD.mono (hcd _ _) ?_)
   rintro e' u' w' ⟨⟨v0, rfl⟩, rfl, rfl⟩
   exact ⟨v3, hr3, v3, ρ3, rfl, hv3, hE1.trans hR (hE2.trans hR1 hE3), hR3⟩
  ·cases h2
theorem F0 (hm : hZ call) {n : Nat} {rs : List ResultVar} {s : DSh} {args : List Value} {v : Value} {H' : AH} (h : nR P G call n rs s args H = some (v, H')) : H.size ≤ H'.size := by
 unfold nR at h;obtain ⟨⟨e1, A1, H1⟩, h1, h⟩ := aE.1 h
 cases e1 with
 | exit i => cases h
 | ret => cases h
 | normal =>
  simp only at h
  split at h
  ·cases h
  obtain ⟨⟨A2, H2⟩, h2, h⟩ := aE.1 h;obtain ⟨⟨A3, H3⟩, h3, h⟩ := aE.1 h;obtain ⟨x, hx, e⟩ := be.1 h;cases e;have g1 := za hm _ h1;have g2 : H1.size ≤ H2.size := qF (P := P) (G := G) (call := call) hm [s.om] (ops := s.ops2) (A := A1) (H := H1) (r := (A2, H2)) (by simp [dh, h2]);have g3 := qF hm _ h3;simp only at g1 g3;exact fF g1 (fF g2 g3)
theorem zu (hm : P.follows .mixedOrders = true) : ∀ d, lD P G (fA P G d) ∧ hZ (fA P G d) := by
 intro d
 induction d with
 | zero => exact ⟨fun f args H v H' h => (by cases h), fun f args H v H' h => (by cases h)⟩
 | succ d ih =>
  constructor
  ·intro f args H v H' h
   simp only [fA] at h
   cases hf : P.funcs[f]? with
   | none => rw [hf] at h; cases h
   | some fn =>
    rw [hf] at h;simp only at h
    split at h
    ·cases h
    ·rename_i hname
     cases hb : fn.body with
     | none => rw [hb] at h; cases h
     | some c =>
      rw [hb] at h;simp only at h;refine ⟨⟨fn, rfl, by rw [hb]; rfl, hname⟩, fun w0 B ρ w args' hR hG hargs => ?_⟩
      have hA : cy P ρ (args ++ List.replicate (fn.ntmps - args.length) undef) { tmps := args'.toArray ++ Array.replicate (fn.ntmps - args'.toArray.size) undef, defers := [] } := by
       refine ⟨?_, rfl⟩;simp only [Array.toList_append, Array.toList_replicate, List.size_toArray];rw [hargs.1];refine hargs.append ⟨rfl, fun i x y hx hy => ?_⟩;rw [hx] at hy;cases hy;rw [List.getElem?_replicate] at hx
       split at hx
       ·cases hx; exact VRel.undef
       ·cases hx
      cases hd : ku c with
      | some s => rw [hd] at h; exact Gx ih.1 ih.2 hm hf hb hd h hA hG hR
      | none =>
      rw [hd] at h;simp only [oE] at h;obtain ⟨⟨e, A', H2⟩, hc, h⟩ := aE.1 h;refine calls_of_wp hf hb ?_;refine zx ih.1 ih.2 hm c hc hA hG hR (fun a' w' hp => ?_);obtain ⟨ρ', hA', hG', hE, hR'⟩ := hp
      have fin : ∀ {x : Value} {H3 : AH}, (iV P A' H2 fn.results.toList).map (·, H2) = some (x, H3) → a'.defers = [] ∧ ∃ v', (results fn a'.tmps).run P w' = .ok v' w' ∧ ∃ v'' ρ'', Ending.returned v' = .returned v'' ∧ VRel P ρ'' x v'' ∧ iT ρ H w ρ'' H3 w' ∧ Rel P w0 B ρ'' H3 w' := by
       intro x H3 hx;obtain ⟨y, hy, e⟩ := be.1 hx;cases e;obtain ⟨v', hr, hv⟩ := w9 hA' hR' hy;exact ⟨hA'.defers, v', hr, v', ρ', rfl, hv, hE, hR'⟩
      cases e with
      | normal => exact fin h
      | ret => exact fin h
      | exit i => cases h
  ·intro f args H v H' h
   simp only [fA] at h
   cases hf : P.funcs[f]? with
   | none => rw [hf] at h; cases h
   | some fn =>
    rw [hf] at h;simp only at h
    split at h
    ·cases h
    ·cases hb : fn.body with
     | none => rw [hb] at h; cases h
     | some c =>
      rw [hb] at h;simp only [oE] at h
      cases hd : ku c with
      | some s =>
       rw [hd] at h;obtain ⟨_, h⟩ := nc h;exact F0 ih.2 h
      | none =>
      rw [hd] at h;simp only at h;obtain ⟨⟨e, A', H2⟩, hc, h⟩ := aE.1 h;have h1 := za ih.2 c hc;unfold Q5 at h
      split at h
      ·cases h
      ·obtain ⟨y, hy, e⟩ := be.1 h
       cases e; exact h1
end
def QX (c1 c2 : bE) : Prop := ∀ f args H r, c1 f args H = some r → c2 f args H = some r
section
variable {P : Program} {G : List Nat} {c1 c2 : bE}
theorem Yt (h : QX c1 c2) {ev : Operand → Value} {o : Oper} {H : AH} {r : Value × AH} (hr : eH P c1 ev o H = some r) : eH P c2 ev o H = some r := by
 obtain ⟨dst, op, type, pos, after, guard⟩ := o
 cases op with
 | call c =>
  obtain ⟨callee, args, ats⟩ := c
  cases callee with
  | value f =>
   simp only [eH] at hr ⊢;obtain ⟨x, hx, hr⟩ := aE.1 hr;rw [hx];exact h _ _ _ _ hr
  | invoke r m => exact hr
  | builtin b => exact hr
 | makeMap t r => cases r <;> exact hr
 | slice t x lo hi mx => cases lo <;> cases hi <;> cases mx <;> exact hr
 | _ => exact hr
theorem zf (h : QX c1 c2) {ops : Array Oper} {o : Oper} {A : List Value} {H : AH} {r : List Value × AH} (hr : gl P G c1 ops o A H = some r) : gl P G c2 ops o A H = some r := by
 unfold gl at hr ⊢
 split at hr
 ·rename_i hok
  rw [if_pos hok]
  split at hr
  ·rename_i hw
   rw [if_pos hw];obtain ⟨x, hx, e⟩ := be.1 hr;rw [Yt h hx];exact congrArg some e
  ·rename_i hw
   rw [if_neg hw];exact hr
 ·cases hr
theorem qE (h : QX c1 c2) {ops : Array Oper} : ∀ (l : List Oper) {A : List Value} {H : AH} {r : List Value × AH}, dh P G c1 ops l A H = some r → dh P G c2 ops l A H = some r := by
 intro l
 induction l with
 | nil => intro A H r hr; exact hr
 | cons o l ih =>
  intro A H r hr;simp only [dh] at hr ⊢;obtain ⟨s, hs, hr⟩ := aE.1 hr;rw [zf h hs];exact ih hr
theorem UM (h : QX c1 c2) {ops : Array Oper} {A : List Value} {H : AH} {r : List Value × AH} (hr : dh P G c1 ops ops.toList A H = some r) : jz P G c2 ops A H = jz P G c1 ops A H := by
 funext i
 have h1 := qE h _ (u7 hr i);unfold jz at h1 ⊢;rw [h1]; rfl
theorem Q4 (h : QX c1 c2) {ops : Array Oper} {A : List Value} {H : AH} {r : List Value × AH} (hr : mj P G c1 ops A H = some r) : mj P G c2 ops A H = some r := by
 obtain ⟨h1, h2, h3⟩ := gk hr;unfold mj;rw [h1];simp only
 cases h4 : dR ops.toList with
 | nil => exact qE h _ h3
 | cons p ps =>
  simp only;rw [j6 ?_]
  ·exact qE h _ h3
  ·rw [UM h h3, ← h4]; exact h2
theorem m9 (h : QX c1 c2) : ∀ (c : Code) {A : List Value} {H : AH} {r : AR}, aW P G c1 c A H = some r → aW P G c2 c A H = some r := by
 intro c
 induction c with
 | region id ops draw =>
  intro A H r hr;simp only [aW] at hr ⊢;obtain ⟨s, hs, e1⟩ := be.1 hr
  have : f6 P G c2 ops draw A H = some s := by
   cases draw with
   | true => exact Q4 h hs
   | false => exact qE h _ hs
  rw [this]; exact congrArg some e1
 | seq x y ihx ihy =>
  intro A H r hr;simp only [aW] at hr ⊢;obtain ⟨s, hx, hr⟩ := aE.1 hr;rw [ihx hx];simp only [bG]
  split at hr
  ·exact ihy hr
  ·exact hr
 | cond c x y ihx ihy =>
  intro A H r hr;simp only [aW] at hr ⊢
  split at hr
  ·exact ihx hr
  ·exact ihy hr
  ·cases hr
 | block id x ih =>
  intro A H r hr;simp only [aW] at hr ⊢;obtain ⟨s, hx, e2⟩ := be.1 hr;rw [ih hx]; exact congrArg some e2
 | loop x ih =>
  intro A H r hr;simp only [aW] at hr ⊢;obtain ⟨n, hn⟩ := dg.1 hr;refine dg.2 ⟨n, ?_⟩
  clear hr
  induction n generalizing A H with
  | zero => cases hn
  | succ n ihn =>
   simp only [eY] at hn ⊢;obtain ⟨s, hx, hr⟩ := aE.1 hn;rw [ih hx];simp only [bG]
   split at hr
   ·exact ihn hr
   ·exact hr
 | _ => intro A H r hr; exact hr
theorem Q3 (h : QX c1 c2) {n : Nat} {rs : List ResultVar} {c : Code} {args : List Value} {H : AH} {r : Value × AH} (hr : oE P G c1 n rs c args H = some r) : oE P G c2 n rs c args H = some r := by
 unfold oE at hr ⊢;obtain ⟨s, hs, hr⟩ := aE.1 hr;rw [m9 h _ hs];exact hr
theorem NK (h : QX c1 c2) {n : Nat} {rs : List ResultVar} {s : DSh} {args : List Value} {H : AH} {r : Value × AH} (hr : nR P G c1 n rs s args H = some r) : nR P G c2 n rs s args H = some r := by
 unfold nR at hr ⊢;obtain ⟨⟨e1, A1, H1⟩, h1, hr⟩ := aE.1 hr;rw [m9 h _ h1];simp only [bG]
 cases e1 with
 | exit i => exact hr
 | ret => exact hr
 | normal =>
  simp only at hr ⊢
  split at hr
  ·cases hr
  rename_i hlt
  rw [if_neg hlt];obtain ⟨q, h2, hr⟩ := aE.1 hr;obtain ⟨z, h3, hr⟩ := aE.1 hr;rw [zf h h2];simp only [bG];rw [qE h _ h3];exact hr
theorem Ix : ∀ d, QX (fA P G d) (fA P G (d + 1)) := by
 intro d
 induction d with
 | zero => intro f args H r h; cases h
 | succ d ih =>
  intro f args H r h;rw [fA] at h ⊢;simp only [] at h ⊢
  cases hf : P.funcs[f]? with
  | none => rw [hf] at h; cases h
  | some fn =>
   rw [hf] at h;simp only at h ⊢
   split at h
   ·cases h
   ·rename_i hn
    rw [if_neg hn]
    cases hb : fn.body with
    | none => rw [hb] at h; cases h
    | some c =>
     rw [hb] at h;simp only at h ⊢
     cases hd : ku c with
     | none => rw [hd] at h; exact Q3 ih h
     | some s =>
      rw [hd] at h;obtain ⟨h1, h2⟩ := nc h;simp only;rw [j6 h1];exact NK ih h2
theorem j4 {d e : Nat} (h : d ≤ e) : QX (fA P G d) (fA P G e) := by
 induction e with
 | zero => rw [show d = 0 from by omega]; exact fun _ _ _ _ h => h
 | succ e ih =>
  by_cases hd : d = e + 1
  ·rw [hd]; exact fun _ _ _ _ h => h
  ·exact fun f args H r hr => Ix e f args H r (ih (by omega) f args H r hr)
open Classical in
noncomputable def aF (P : Program) (G : List Nat) : bE := fun f args H => if h : ∃ d r, fA P G d f args H = some r then some h.choose_spec.choose else none
theorem zb {f : Nat} {args : List Value} {H : AH} {r : Value × AH} : aF P G f args H = some r ↔ ∃ d, fA P G d f args H = some r := by
 unfold aF
 constructor
 ·intro h
  split at h
  ·rename_i hx
   cases h;exact ⟨_, hx.choose_spec.choose_spec⟩
  ·cases h
 ·rintro ⟨n, hn⟩
  have hx : ∃ d r, fA P G d f args H = some r := ⟨n, r, hn⟩;rw [dif_pos hx];have h1 := j4 (Nat.le_max_right n hx.choose) _ _ _ _ hx.choose_spec.choose_spec;have h2 := j4 (Nat.le_max_left n hx.choose) _ _ _ _ hn;rw [h2] at h1;exact h1.symm
theorem ZB (hm : P.follows .mixedOrders = true) : lD P G (aF P G) ∧ hZ (aF P G) := by
 constructor
 ·intro f args H v H' h
  obtain ⟨d, hd⟩ := zb.1 h;exact (zu hm d).1 f args H v H' hd
 ·intro f args H v H' h
  obtain ⟨d, hd⟩ := zb.1 h;exact (zu hm d).2 f args H v H' hd
theorem VK {ev : Operand → Value} {o : Oper} {H : AH} {r : Value × AH} (h : eH P (aF P G) ev o H = some r) : ∃ d, eH P (fA P G d) ev o H = some r := by
 obtain ⟨dst, op, type, pos, after, guard⟩ := o
 cases op with
 | call c =>
  obtain ⟨callee, args, ats⟩ := c
  cases callee with
  | value f =>
   simp only [eH] at h ⊢;obtain ⟨x, hx, h⟩ := aE.1 h;obtain ⟨d, hd⟩ := zb.1 h;exact ⟨d, by rw [hx]; exact hd⟩
  | invoke r m => exact ⟨0, h⟩
  | builtin b => exact ⟨0, h⟩
 | makeMap t r => cases r <;> exact ⟨0, h⟩
 | slice t x lo hi mx => cases lo <;> cases hi <;> cases mx <;> exact ⟨0, h⟩
 | _ => exact ⟨0, h⟩
theorem F5 {ops : Array Oper} : ∀ (l : List Oper) {A : List Value} {H : AH} {r : List Value × AH}, dh P G (aF P G) ops l A H = some r → ∃ d, dh P G (fA P G d) ops l A H = some r := by
 intro l
 induction l with
 | nil => intro A H r hr; exact ⟨0, hr⟩
 | cons o l ih =>
  intro A H r hr;simp only [dh] at hr ⊢;obtain ⟨s, hs, hr⟩ := aE.1 hr;obtain ⟨d2, h2⟩ := ih hr
  have h1 : ∃ d, gl P G (fA P G d) ops o A H = some s := by
   unfold gl at hs ⊢
   split at hs
   ·rename_i hok
    split at hs
    ·rename_i hw
     obtain ⟨x, hx, e⟩ := be.1 hs;obtain ⟨d, hd⟩ := VK hx;exact ⟨d, by rw [if_pos hok, if_pos hw, hd]; exact congrArg some e⟩
    ·rename_i hw
     exact ⟨0, by rw [if_pos hok, if_neg hw]; exact hs⟩
   ·cases hs
  obtain ⟨d1, h1⟩ := h1;refine ⟨max d1 d2, ?_⟩;rw [zf (j4 (Nat.le_max_left ..)) h1];exact qE (j4 (Nat.le_max_right ..)) _ h2
theorem KV (d : Nat) : QX (fA P G d) (aF P G) := fun _ _ _ _ h => zb.2 ⟨d, h⟩
theorem F6 {ops : Array Oper} {draw : Bool} {A : List Value} {H : AH} {r : List Value × AH} (h : f6 P G (aF P G) ops draw A H = some r) : ∃ d, f6 P G (fA P G d) ops draw A H = some r := by
 cases draw with
 | false => exact F5 _ h
 | true =>
  simp only [f6] at h ⊢;obtain ⟨h1, h2, h3⟩ := gk h;obtain ⟨d, hd⟩ := F5 _ h3;refine ⟨d, ?_⟩;unfold mj;rw [h1];simp only
  cases h4 : dR ops.toList with
  | nil => exact hd
  | cons p ps =>
   simp only;rw [j6 ?_]
   ·exact hd
   ·rw [← UM (KV d) hd, ← h4]; exact h2
theorem NJ : ∀ (c : Code) {A : List Value} {H : AH} {r : AR}, aW P G (aF P G) c A H = some r → ∃ d, aW P G (fA P G d) c A H = some r := by
 intro c
 induction c with
 | region id ops draw =>
  intro A H r hr;simp only [aW] at hr ⊢;obtain ⟨s, hs, e1⟩ := be.1 hr;obtain ⟨d, hd⟩ := F6 hs;exact ⟨d, by rw [hd]; exact congrArg some e1⟩
 | seq x y ihx ihy =>
  intro A H r hr;simp only [aW] at hr ⊢;obtain ⟨s, hx, hr⟩ := aE.1 hr;obtain ⟨d1, h1⟩ := ihx hx
  split at hr
  ·rename_i e
   obtain ⟨d2, h2⟩ := ihy hr;refine ⟨max d1 d2, ?_⟩;rw [m9 (j4 (Nat.le_max_left ..)) _ h1];simp only [bG, e];exact m9 (j4 (Nat.le_max_right ..)) _ h2
  ·refine ⟨d1, ?_⟩
   rw [h1];simp only [bG];exact hr
 | cond c x y ihx ihy =>
  intro A H r hr;simp only [aW] at hr ⊢
  split at hr
  ·exact ihx hr
  ·exact ihy hr
  ·cases hr
 | block id x ih =>
  intro A H r hr;simp only [aW] at hr ⊢;obtain ⟨s, hx, e2⟩ := be.1 hr;obtain ⟨d, hd⟩ := ih hx;exact ⟨d, by rw [hd]; exact congrArg some e2⟩
 | loop x ih =>
  intro A H r hr;simp only [aW] at hr ⊢;obtain ⟨n, hn⟩ := dg.1 hr
  have key : ∃ d, eY (aW P G (fA P G d) x) n A H = some r := by
   clear hr
   induction n generalizing A H with
   | zero => cases hn
   | succ n ihn =>
    simp only [eY] at hn ⊢;obtain ⟨s, hx, hr⟩ := aE.1 hn;obtain ⟨d1, h1⟩ := ih hx
    split at hr
    ·rename_i e
     obtain ⟨d2, h2⟩ := ihn hr;refine ⟨max d1 d2, ?_⟩;rw [m9 (j4 (Nat.le_max_left ..)) _ h1];simp only [bG, e]
     have key2 : ∀ (n : Nat) {A : List Value} {H : AH} {r : AR}, eY (aW P G (fA P G d2) x) n A H = some r → eY (aW P G (fA P G (max d1 d2)) x) n A H = some r := by
      intro n
      induction n with
      | zero => intro A H r h; cases h
      | succ n ih2 =>
       intro A H r h;simp only [eY] at h ⊢;obtain ⟨s, hx, hr⟩ := aE.1 h;rw [m9 (j4 (Nat.le_max_right d1 d2)) _ hx];simp only [bG]
       split at hr
       ·exact ih2 hr
       ·exact hr
     exact key2 n h2
    ·refine ⟨d1, ?_⟩
     rw [h1];simp only [bG];exact hr
  obtain ⟨d, hd⟩ := key;exact ⟨d, dg.2 ⟨n, hd⟩⟩
 | _ => intro A H r hr; exact ⟨0, hr⟩
theorem ZA {f : Nat} {fn : Func} {c : Code} (hf : P.funcs[f]? = some fn) (hb : fn.body = some c) (hn : fn.name ≠ "runtime.NumGoroutine") (hds : ku c = none) {args : List Value} {H : AH} {r : Value × AH}
 (h : oE P G (aF P G) fn.ntmps fn.results.toList c args H = some r) : aF P G f args H = some r := by
 unfold oE at h;obtain ⟨s, hs, h⟩ := aE.1 h;obtain ⟨d, hd⟩ := NJ _ hs;refine zb.2 ⟨d + 1, ?_⟩;simp only [fA, hf, hb, if_neg hn, hds, oE, hd, bG];exact h
end
section
variable {R : Type}
abbrev tb {α β : Type} (x : Option α) (f : α → Option β) : Option β :=
 match x with
 | some a => f a
 | none => none
theorem Ia {α β : Type} (x : Option α) (f : α → Option β) : tb x f = x.bind f := by cases x <;> rfl
abbrev gF (P : Program) (b : Builtin) (argTypes : Array TypeId) (args : List Value) (H : AH) (k : Value → AH → Option R) : Option R :=
 match b, args with
 | .len, [x] => match (argTypes[0]?).bind fun t => P.underlying t with
  | some (.slice _) => match x with | .slice _ n _ => k (.int .i64 n) H | _ => none
  | some .string => match x with | .string s => k (.int .i64 s.size) H | _ => none
  | some (.map _ _) => (mB x H).bind fun v => k v H
  | _ => none
 | .max, args => (ii args).bind fun v => k v H
 | .min, args => (ju args).bind fun v => k v H
 | .append, [s, x] => (argTypes[0]?).bind fun t => (cF P t).bind fun el => (cL P el).bind fun e => (fQ P el).bind fun by' => (bT P el).bind fun z =>
  if z.cells.size = e ∧ (argTypes[1]?).bind (fun u => cF P u) = some el then (f3 e by' s x H).bind fun r => k r.1 r.2 else none
 | .delete, [m, key] => (argTypes[0]?).bind fun t => (cG P t).bind fun kt => (cT P kt.1).bind fun fl => (mz fl m key H).bind fun H' => k (.tuple #[]) H'
 | _, _ => none
abbrev o7 (P : Program) (call : bE) (ev : Operand → Value) (o : Oper) (H : AH) (k : Value → AH → Option R) : Option R :=
 match o.op with
 | .move x => k (ev x) H
 | .assign x => k (ev x) H
 | .pick c a b => (aX (ev c) (ev a) (ev b)).bind fun v => k v H
 | .alloc t => (bT P t).bind fun z => k (.pointer (some ⟨H.size, 0, none⟩)) (H.push (.cells false z.cells.toList))
 | .box _ x => k (.pointer (some ⟨H.size, 0, none⟩)) (H.push (.cells false (ev x).cells.toList))
 | .build t parts => match P.underlying t with
  | some (.struct fs) => (bT P t).bind fun z => (jg P fs.toList).bind fun ps => (dk (ps[·]?) z.cells.toList (parts.toList.map fun p => (p.1, ev p.2))).bind fun cs => k (.agg cs.toArray) H
  | some (.array _ el) => (bT P t).bind fun z => (cL P el).bind fun e => (dk (fun i => some (i * e, e)) z.cells.toList (parts.toList.map fun p => (p.1, ev p.2))).bind fun cs => k (.agg cs.toArray) H
  | _ => none
 | .buildSlice t len parts => (cF P t).bind fun el => (cL P el).bind fun e => (bT P el).bind fun z =>
  if 0 < e ∧ z.cells.size = e ∧ len * e ≤ 2 ^ 24 then
   (dk (fun i => some (i * e, e)) (List.replicate len z.cells.toList).flatten (parts.toList.map fun p => (p.1, ev p.2))).bind fun cs => k (.slice (some ⟨H.size, 0, none⟩) len e) (H.push (.cells false cs))
  else none
 | .load t a => (fB P t).bind fun g => match g with
  | some n => (aA n (ev a) H).bind fun v => k v H
  | none => (ar (ev a) H).bind fun v => k v H
 | .store t a x => (cL P t).bind fun n => (cD n (ev a) (ev x) H).bind fun H' => k undef H'
 | .nilCheck x => (sK (ev x)).bind fun v => k v H
 | .binOp op t x y _ => (aq (wN P t) op (ev x) (ev y)).bind fun v => k v H
 | .unOp op _ x => (mD op (ev x)).bind fun v => k v H
 | .convert src dst x => match P.underlying src with
  | some _ => (cH (pO P dst) (ev x)).bind fun v => k v H
  | none => none
 | .makeFunc fn first captured => k (.func fn (first.map ev) (captured.map ev)) H
 | .makeMap _ none => k (.map (some H.size)) (H.push (.map [] 0))
 | .makeSlice t l c => (cF P t).bind fun el => (cL P el).bind fun e => (fQ P el).bind fun by' => (bT P el).bind fun z => (mC z.cells.toList e by' (ev l) (ev c) H).bind fun r => k r.1 r.2
 | .slice t x lo hi none => (cF P t).bind fun el => (cL P el).bind fun e => (ft e (ev x) (lo.map ev) (hi.map ev)).bind fun v => k v H
 | .slice t x none (some hi) (some mx) => (cF P t).bind fun el => (cL P el).bind fun _ => (jf (ev x) (ev hi) (ev mx)).bind fun v => k v H
 | .fieldAddr s x f => (jU P s f).bind fun f => (cL P f.type).bind fun n => if n = 0 then none else (B4 f.offset (ev x)).bind fun v => k v H
 | .field s x f => (jU P s f).bind fun f => (fB P f.type).bind fun n => (kK n f.offset (ev x)).bind fun v => k v H
 | .indexAddr t x i => match P.underlying t with
  | some (.slice el) => (cL P el).bind fun e => (nF e (ev x) (ev i)).bind fun v => k v H
  | some (.array len el) => (cL P el).bind fun e => (jx len e (ev x) (ev i)).bind fun v => k v H
  | _ => none
 | .index t x i => match P.underlying t with
  | some (.array len el) => (cL P el).bind fun e => (fB P el).bind fun n => (je len n e (ev x) (ev i)).bind fun v => k v H
  | some .string => (jd (ev x) (ev i)).bind fun v => k v H
  | _ => none
 | .lookup t m key ok => (cG P t).bind fun kt => (cT P kt.1).bind fun fl => (bT P kt.2).bind fun z => (cY fl z (ev m) (ev key) ok H).bind fun v => k v H
 | .mapUpdate t m key x => (cG P t).bind fun kt => (cT P kt.1).bind fun fl => (eD fl (ev m) (ev key) (ev x) H).bind fun H' => k undef H'
 | .extract t i => (af (ev t) i).bind fun v => k v H
 | .call c => match c.callee with
  | .builtin b => gF P b c.argTypes (c.args.toList.map ev) H k
  | .value f => (dd (ev f) (c.args.toList.map ev)).bind fun fa => (call fa.1 fa.2 H).bind fun r => k r.1 r.2
  | _ => none
 | _ => none
abbrev zt (P : Program) (b : Builtin) (argTypes : Array TypeId) (args : List Value) (H : AH) (k : Value → AH → Option R) : Option R :=
 match b, args with
 | .len, [x] => match (argTypes[0]?).bind fun t => P.underlying t with
  | some (.slice _) => match x with | .slice _ n _ => k (.int .i64 n) H | _ => none
  | some .string => match x with | .string s => k (.int .i64 s.size) H | _ => none
  | some (.map _ _) => (mB x H).bind fun v => k v H
  | _ => none
 | .max, args => (ii args).bind fun v => k v H
 | .min, args => (ju args).bind fun v => k v H
 | .append, [s, x] => tb (argTypes[0]?) fun t => tb (cF P t) fun el => tb (cL P el) fun e => tb (fQ P el) fun by' => tb (bT P el) fun z =>
  if z.cells.size = e ∧ (argTypes[1]?).bind (fun u => cF P u) = some el then (f3 e by' s x H).bind fun r => k r.1 r.2 else none
 | .delete, [m, key] => tb (argTypes[0]?) fun t => tb (cG P t) fun kt => tb (cT P kt.1) fun fl => (mz fl m key H).bind fun H' => k (.tuple #[]) H'
 | _, _ => none
abbrev Yw (P : Program) (call : bE) (ev : Operand → Value) (o : Oper) (H : AH) (k : Value → AH → Option R) : Option R :=
 match o.op with
 | .move x => k (ev x) H
 | .assign x => k (ev x) H
 | .pick c a b => (aX (ev c) (ev a) (ev b)).bind fun v => k v H
 | .alloc t => tb (bT P t) fun z => k (.pointer (some ⟨H.size, 0, none⟩)) (H.push (.cells false z.cells.toList))
 | .box _ x => k (.pointer (some ⟨H.size, 0, none⟩)) (H.push (.cells false (ev x).cells.toList))
 | .build t parts => match P.underlying t with
  | some (.struct fs) => tb (bT P t) fun z => tb (jg P fs.toList) fun ps => (dk (ps[·]?) z.cells.toList (parts.toList.map fun p => (p.1, ev p.2))).bind fun cs => k (.agg cs.toArray) H
  | some (.array _ el) => tb (bT P t) fun z => tb (cL P el) fun e => (dk (fun i => some (i * e, e)) z.cells.toList (parts.toList.map fun p => (p.1, ev p.2))).bind fun cs => k (.agg cs.toArray) H
  | _ => none
 | .buildSlice t len parts => tb (cF P t) fun el => tb (cL P el) fun e => tb (bT P el) fun z =>
  if 0 < e ∧ z.cells.size = e ∧ len * e ≤ 2 ^ 24 then
   (dk (fun i => some (i * e, e)) (List.replicate len z.cells.toList).flatten (parts.toList.map fun p => (p.1, ev p.2))).bind fun cs => k (.slice (some ⟨H.size, 0, none⟩) len e) (H.push (.cells false cs))
  else none
 | .load t a => tb (fB P t) fun g => match g with
  | some n => (aA n (ev a) H).bind fun v => k v H
  | none => (ar (ev a) H).bind fun v => k v H
 | .store t a x => tb (cL P t) fun n => (cD n (ev a) (ev x) H).bind fun H' => k undef H'
 | .nilCheck x => (sK (ev x)).bind fun v => k v H
 | .binOp op t x y _ => (aq (wN P t) op (ev x) (ev y)).bind fun v => k v H
 | .unOp op _ x => (mD op (ev x)).bind fun v => k v H
 | .convert src dst x => match P.underlying src with
  | some _ => (cH (pO P dst) (ev x)).bind fun v => k v H
  | none => none
 | .makeFunc fn first captured => k (.func fn (first.map ev) (captured.map ev)) H
 | .makeMap _ none => k (.map (some H.size)) (H.push (.map [] 0))
 | .makeSlice t l c => tb (cF P t) fun el => tb (cL P el) fun e => tb (fQ P el) fun by' => tb (bT P el) fun z => (mC z.cells.toList e by' (ev l) (ev c) H).bind fun r => k r.1 r.2
 | .slice t x lo hi none => tb (cF P t) fun el => tb (cL P el) fun e => (ft e (ev x) (lo.map ev) (hi.map ev)).bind fun v => k v H
 | .slice t x none (some hi) (some mx) => tb (cF P t) fun el => tb (cL P el) fun _ => (jf (ev x) (ev hi) (ev mx)).bind fun v => k v H
 | .fieldAddr s x f => tb (jU P s f) fun f => tb (cL P f.type) fun n => if n = 0 then none else (B4 f.offset (ev x)).bind fun v => k v H
 | .field s x f => tb (jU P s f) fun f => tb (fB P f.type) fun n => (kK n f.offset (ev x)).bind fun v => k v H
 | .indexAddr t x i => match P.underlying t with
  | some (.slice el) => tb (cL P el) fun e => (nF e (ev x) (ev i)).bind fun v => k v H
  | some (.array len el) => tb (cL P el) fun e => (jx len e (ev x) (ev i)).bind fun v => k v H
  | _ => none
 | .index t x i => match P.underlying t with
  | some (.array len el) => tb (cL P el) fun e => tb (fB P el) fun n => (je len n e (ev x) (ev i)).bind fun v => k v H
  | some .string => (jd (ev x) (ev i)).bind fun v => k v H
  | _ => none
 | .lookup t m key ok => tb (cG P t) fun kt => tb (cT P kt.1) fun fl => tb (bT P kt.2) fun z => (cY fl z (ev m) (ev key) ok H).bind fun v => k v H
 | .mapUpdate t m key x => tb (cG P t) fun kt => tb (cT P kt.1) fun fl => (eD fl (ev m) (ev key) (ev x) H).bind fun H' => k undef H'
 | .extract t i => (af (ev t) i).bind fun v => k v H
 | .call c => match c.callee with
  | .builtin b => zt P b c.argTypes (c.args.toList.map ev) H k
  | .value f => (dd (ev f) (c.args.toList.map ev)).bind fun fa => (call fa.1 fa.2 H).bind fun r => k r.1 r.2
  | _ => none
 | _ => none
theorem gr {α β γ : Type} (x : Option α) (b : β) (k : α → β → Option γ) : ((x.map (·, b)).bind fun r => k r.1 r.2) = x.bind fun v => k v b := by cases x <;> rfl
theorem vR {β γ : Type} (x : Option β) (v : Value) (k : Value → β → Option γ) : ((x.map fun H' => (v, H')).bind fun r => k r.1 r.2) = x.bind fun H' => k v H' := by cases x <;> rfl
theorem DH (P : Program) (b : Builtin) (ts : Array TypeId) (args : List Value) (H : AH) (k : Value → AH → Option R) : gF P b ts args H k = (cS P b ts args H).bind fun r => k r.1 r.2 := by
 cases b with
 | len =>
  match args with
  | [] => rfl
  | [x] =>
   simp only [gF, cS]
   cases (ts[0]?).bind fun t => P.underlying t with
   | none => rfl
   | some d => cases d <;> first | rfl | (cases x <;> rfl) | (simp only [gr])
  | x :: y :: zs => rfl
 | max => simp only [gF, cS, gr]
 | min => simp only [gF, cS, gr]
 | append =>
  match args with
  | [] => rfl
  | [x] => rfl
  | [s, x] =>
   simp only [gF, cS, Option.bind_assoc]
   congr 1; funext t; congr 1; funext el; congr 1; funext e; congr 1; funext b; congr 1; funext z
   split
   ·rfl
   ·rfl
  | x :: y :: z :: zs => rfl
 | delete =>
  match args with
  | [] => rfl
  | [x] => rfl
  | [s, x] => simp only [gF, cS, Option.bind_assoc, vR]
  | x :: y :: z :: zs => rfl
 | _ => rfl
theorem VR (P : Program) (call : bE) (ev : Operand → Value) (o : Oper) (H : AH) (k : Value → AH → Option R) : o7 P call ev o H k = (eH P call ev o H).bind fun r => k r.1 r.2 := by
 obtain ⟨dst, op, type, pos, after, guard⟩ := o
 cases op with
 | call c =>
  obtain ⟨callee, args, ats⟩ := c
  cases callee with
  | value f => simp only [o7, eH, Option.bind_assoc]
  | invoke r m => rfl
  | builtin b => simp only [o7, eH]; exact DH ..
 | makeMap t r => cases r <;> rfl
 | slice t x lo hi mx =>
  cases mx with
  | none => simp only [o7, eH, Option.bind_assoc, gr]
  | some m => cases lo <;> cases hi <;> first | rfl | (simp only [o7, eH, Option.bind_assoc, gr])
 | load t a =>
  simp only [o7, eH, Option.bind_assoc]
  congr 1
  funext g
  cases g <;> simp only [gr]
 | build t parts =>
  simp only [o7, eH]
  cases P.underlying t with
  | none => rfl
  | some d => cases d <;> first | rfl | (simp only [Option.bind_assoc, Option.bind_map]; rfl)
 | buildSlice t len parts =>
  simp only [o7, eH, Option.bind_assoc]
  congr 1; funext el; congr 1; funext e; congr 1; funext z
  split
  ·rw [Option.bind_map]; rfl
  ·rfl
 | fieldAddr s x f =>
  simp only [o7, eH, Option.bind_assoc]
  congr 1; funext el; congr 1; funext e
  split
  ·rfl
  ·rw [gr]
 | alloc t => simp only [o7, eH, Option.bind_map]; rfl
 | indexAddr t x i =>
  simp only [o7, eH]
  cases P.underlying t with
  | none => rfl
  | some d => cases d <;> first | rfl | (simp only [Option.bind_assoc, gr])
 | index t x i =>
  simp only [o7, eH]
  cases P.underlying t with
  | none => rfl
  | some d => cases d <;> first | rfl | (simp only [Option.bind_assoc, gr])
 | convert s d x =>
  simp only [o7, eH]
  cases P.underlying s with
  | none => rfl
  | some d => simp only [gr]
 | store t x y => simp only [o7, eH, Option.bind_assoc, vR]
 | mapUpdate t m key x => simp only [o7, eH, Option.bind_assoc, vR]
 | _ => first | rfl | (simp only [o7, eH, Option.bind_assoc, gr]; done)
theorem IH (P : Program) (b : Builtin) (ts : Array TypeId) (args : List Value) (H : AH) (k : Value → AH → Option R) : zt P b ts args H k = gF P b ts args H k := by
 unfold zt gF;simp only [Ia]
theorem ZG (P : Program) (call : bE) (ev : Operand → Value) (o : Oper) (H : AH) (k : Value → AH → Option R) : Yw P call ev o H k = o7 P call ev o H k := by
 unfold Yw o7;simp only [Ia, IH]
theorem Ro (P : Program) (call : bE) (ev : Operand → Value) (o : Oper) (H : AH) (k : Value → AH → Option R) : Yw P call ev o H k = (eH P call ev o H).bind fun r => k r.1 r.2 := (ZG ..).trans (VR ..)
def EQ (op : Op) : Bool := kq op == 0 || kq op == 2
theorem PI {P : Program} {call : bE} {ev : Operand → Value} {o : Oper} {H : AH} (h : EQ o.op = true) : eH P call ev o H = (Yw P call ev o H fun v _ => some v).map (·, H) := by
 rw [Ro]
 cases hx : eH P call ev o H with
 | none => rfl
 | some r =>
  obtain ⟨v, H'⟩ := r;simp only [bG, eR];unfold EQ at h;simp only [Bool.or_eq_true, beq_iff_eq] at h
  rcases h with h | h
  ·rw [(tv h hx).1]
  ·rw [zd h] at hx
   obtain ⟨y, _, e⟩ := be.1 hx;rw [(Prod.mk.inj e).2]
abbrev Le (P : Program) (G : List Nat) (call : bE) (ops : Array Oper) (o : Oper) (A : List Value) (H : AH) (k : List Value → AH → Option R) : Option R :=
 match o.op.operands.toList.all (It G) with
 | true => match o.guard with
  | none => Yw P call (fD A) o H fun v H' => k (kP A o.dst v) H'
  | some g => match EQ o.op with
   | true => (match dG ops A g.1 == some g.2 with
    | true => Yw P call (fD A) o H fun v _ => some v
    | false => some undef).bind fun v => k (kP A o.dst v) H
   | false => (match dG ops A g.1 == some g.2 with
    | true => eH P call (fD A) o H
    | false => some (undef, H)).bind fun r => k (kP A o.dst r.1) r.2
 | false => none
theorem Gq (P : Program) (G : List Nat) (call : bE) (ops : Array Oper) (o : Oper) (A : List Value) (H : AH) (k : List Value → AH → Option R) : Le P G call ops o A H k = (gl P G call ops o A H).bind fun s => k s.1 s.2 := by
 unfold Le gl
 cases o.op.operands.toList.all (It G) with
 | false => rfl
 | true =>
  simp only [if_true];unfold Region.wanted
  cases o.guard with
  | none =>
   simp only [if_true];rw [Ro, Option.bind_map]; rfl
  | some g =>
   obtain ⟨g, want⟩ := g;simp only
   cases hl : EQ o.op with
   | true =>
    simp only
    by_cases h : (dG ops A g == some want) = true
    ·rw [if_pos h, h, PI hl]
     simp only
     cases (Yw P call (fD A) o H fun v _ => some v) <;> rfl
    ·rw [if_neg h, Bool.eq_false_iff.2 h]; rfl
   | false =>
    simp only
    by_cases h : (dG ops A g == some want) = true
    ·rw [if_pos h, h, Option.bind_map]; rfl
    ·rw [if_neg h, Bool.eq_false_iff.2 h]; rfl
abbrev Rp (P : Program) (G : List Nat) (call : bE) (ops : Array Oper) : List Oper → List Value → AH → (List Value → AH → Option R) → Option R
 | [], A, H, k => k A H
 | o :: rest, A, H, k => Le P G call ops o A H fun A' H' => Rp P G call ops rest A' H' k
theorem Ld (P : Program) (G : List Nat) (call : bE) (ops : Array Oper) : ∀ (l : List Oper) (A : List Value) (H : AH) (k : List Value → AH → Option R), Rp P G call ops l A H k = (dh P G call ops l A H).bind fun s => k s.1 s.2 := by
 intro l
 induction l with
 | nil => intro A H k; rfl
 | cons o l ih =>
  intro A H k;simp only [Rp, dh];rw [Gq, Option.bind_assoc]
  congr 1
  funext s
  exact ih _ _ _
noncomputable def bZ {R : Type} (x y : Option Value) (k : Option R) : Option R := Gr (x = y) k
theorem YF {R : Type} {x y : Option Value} (h : x = y) (k : Option R) : bZ x y k = k := j6 h k
noncomputable abbrev NY {R : Type} (j : Nat) (hist : List ((AH → Option Value) × AH)) (rd : AH → Option Value) (H H' : AH) (k : Option R) : List (Nat × Nat) → Option R
 | [] => k
 | pq :: rest => match pq.1 == j with
  | true => match Nat.blt pq.2 j with
   | true => match hist[pq.2]? with
    | some h => bZ (rd h.2) (rd H) (NY j hist rd H H' k rest)
    | none => none
   | false => NY j hist rd H H' k rest
  | false => match pq.2 == j with
   | true => match Nat.blt pq.1 j with
    | true => match hist[pq.1]? with
     | some h => bZ (h.1 H') (h.1 h.2) (NY j hist rd H H' k rest)
     | none => none
    | false => NY j hist rd H H' k rest
   | false => NY j hist rd H H' k rest
theorem Gu {α β : Type} (p : Prop) (x : Option α) (k : α → Option β) : (Gr p x).bind k = Gr p (x.bind k) := by unfold Gr; split <;> rfl
theorem Ru {α β : Type} {j : Nat} {hist : List ((AH → Option Value) × AH)} {rd : AH → Option Value} {H H' : AH} (x : Option α) (k : α → Option β) : ∀ l, (NY j hist rd H H' x l).bind k = NY j hist rd H H' (x.bind k) l := by
 intro l
 induction l with
 | nil => rfl
 | cons p l ih =>
  simp only [NY]
  cases p.1 == j with
  | true =>
   cases Nat.blt p.2 j with
   | true =>
    simp only
    cases hist[p.2]? with
    | none => rfl
    | some h => simp only [bZ]; rw [Gu, ih]
   | false => exact ih
  | false =>
   cases p.2 == j with
   | true =>
    cases Nat.blt p.1 j with
    | true =>
     simp only
     cases hist[p.1]? with
     | none => rfl
     | some h => simp only [bZ]; rw [Gu, ih]
    | false => exact ih
   | false => exact ih
def QR (j : Nat) (hist : List ((AH → Option Value) × AH)) (rd : AH → Option Value) (H H' : AH) (p : Nat × Nat) : Prop :=
 (p.1 = j → p.2 < j → ∃ h, hist[p.2]? = some h ∧ rd h.2 = rd H) ∧ (p.2 = j → p.1 < j → ∃ h, hist[p.1]? = some h ∧ h.1 H' = h.1 h.2)
theorem Lh {α : Type} {p : Prop} {x : Option α} {r : α} : Gr p x = some r ↔ p ∧ x = some r := ⟨nc, fun h => by rw [j6 h.1]; exact h.2⟩
theorem Lj {α : Type} {j : Nat} {hist : List ((AH → Option Value) × AH)} {rd : AH → Option Value} {H H' : AH} {x : Option α} {r : α} : ∀ {l}, NY j hist rd H H' x l = some r ↔ (∀ p ∈ l, QR j hist rd H H' p) ∧ x = some r := by
 intro l
 induction l with
 | nil => simp [NY]
 | cons p l ih =>
  have split : (∀ q ∈ p :: l, QR j hist rd H H' q) ↔ QR j hist rd H H' p ∧ ∀ q ∈ l, QR j hist rd H H' q := by simp
  rw [split, and_assoc, ← ih];simp only [NY]
  by_cases h1 : p.1 = j
  ·have e1 : (p.1 == j) = true := by simpa using h1
   rw [e1];simp only
   by_cases h2 : p.2 < j
   ·have e2 : Nat.blt p.2 j = true := by simpa [Nat.blt_eq] using h2
    rw [e2];simp only
    have hn : ¬ p.2 = j := by omega
    unfold QR
    cases hist[p.2]? with
    | none => simp [h1, h2]
    | some h => simp only [bZ]; rw [Lh]; simp [h1, h2, hn]
   ·have e2 : Nat.blt p.2 j = false := by rw [Bool.eq_false_iff]; intro h; exact h2 (by simpa [Nat.blt_eq] using h)
    rw [e2];simp only;have : QR j hist rd H H' p := ⟨fun _ h => absurd h h2, fun _ h => absurd h (by omega)⟩;simp [this]
  ·have e1 : (p.1 == j) = false := by simpa using h1
   rw [e1];simp only
   by_cases h2 : p.2 = j
   ·have e2 : (p.2 == j) = true := by simpa using h2
    rw [e2];simp only
    by_cases h3 : p.1 < j
    ·have e3 : Nat.blt p.1 j = true := by simpa [Nat.blt_eq] using h3
     rw [e3];simp only;unfold QR
     cases hist[p.1]? with
     | none => simp [h1, h2, h3]
     | some h => simp only [bZ]; rw [Lh]; simp [h1, h2, h3]
    ·have e3 : Nat.blt p.1 j = false := by rw [Bool.eq_false_iff]; intro h; exact h3 (by simpa [Nat.blt_eq] using h)
     rw [e3];simp only;have : QR j hist rd H H' p := ⟨fun h => absurd h h1, fun _ h => absurd h h3⟩;simp [this]
   ·have e2 : (p.2 == j) = false := by simpa using h2
    rw [e2];simp only;have : QR j hist rd H H' p := ⟨fun h => absurd h h1, fun h => absurd h h2⟩;simp [this]
abbrev Fv (P : Program) (A : List Value) (o : Oper) : AH → Option Value := fun H => ze P (fD A) o.op H
noncomputable def ph (P : Program) (G : List Nat) (call : bE) (ops : Array Oper) (pairs : List (Nat × Nat)) : List Oper → Nat → List ((AH → Option Value) × AH) → List Value → AH → Option (List Value × AH)
 | [], _, _, A, H => some (A, H)
 | o :: rest, j, hist, A, H => (gl P G call ops o A H).bind fun s => NY j hist (Fv P A o) H s.2 (ph P G call ops pairs rest (j + 1) (hist ++ [(Fv P A o, H)]) s.1 s.2) pairs
noncomputable abbrev Lc (P : Program) (G : List Nat) (call : bE) (ops : Array Oper) (pairs : List (Nat × Nat)) : List Oper → Nat → List ((AH → Option Value) × AH) → List Value → AH → (List Value → AH → Option R) → Option R
 | [], _, _, A, H, k => k A H
 | o :: rest, j, hist, A, H, k => Le P G call ops o A H fun A' H' => NY j hist (Fv P A o) H H' (Lc P G call ops pairs rest (j + 1) (hist ++ [(Fv P A o, H)]) A' H' k) pairs
theorem Rq (P : Program) (G : List Nat) (call : bE) (ops : Array Oper) (pairs : List (Nat × Nat)) : ∀ (l : List Oper) (j : Nat) (hist : List ((AH → Option Value) × AH)) (A : List Value) (H : AH) (k : List Value → AH → Option R), Lc P G call ops pairs l j hist A H k = (ph P G call ops pairs l j hist A H).bind fun s => k s.1 s.2 := by
 intro l
 induction l with
 | nil => intro j hist A H k; rfl
 | cons o l ih =>
  intro j hist A H k;simp only [Lc, ph];rw [Gq, Option.bind_assoc]
  congr 1
  funext s
  rw [Ru, ih]
theorem NN {P : Program} {G : List Nat} {call : bE} {ops : Array Oper} {pairs : List (Nat × Nat)} {A0 : List Value} {H0 : AH} {r0 : List Value × AH} (h0 : dh P G call ops ops.toList A0 H0 = some r0) (hp : ∀ p ∈ pairs, p.1 < ops.size ∧ p.2 < ops.size ∧ p.1 ≠ p.2) :
 ∀ (l : List Oper) (j : Nat) (hist : List ((AH → Option Value) × AH)), ops.toList.drop j = l → hist.length = j → (∀ i, i < j → ∃ o, ops[i]? = some o ∧ hist[i]? = some (Fv P (jz P G call ops A0 H0 i).1 o, (jz P G call ops A0 H0 i).2)) →
  ∀ r, ph P G call ops pairs l j hist (jz P G call ops A0 H0 j).1 (jz P G call ops A0 H0 j).2 = some r ↔ (∀ p ∈ pairs, j ≤ max p.1 p.2 → jD P (jz P G call ops A0 H0) ops p) ∧ r = r0 := by
 intro l
 induction l with
 | nil =>
  intro j hist hl hlen hh r
  have hj : ops.size ≤ j := by
   have := congrArg List.length hl;simp at this; omega
  have hst : jz P G call ops A0 H0 j = r0 := by
   unfold jz;rw [List.take_of_length_le (by simpa using hj), h0]; rfl
  simp only [ph, hst]
  constructor
  ·intro e
   exact ⟨fun p hpm hm => absurd (hp p hpm) (by omega), (hF e).symm⟩
  ·rintro ⟨_, rfl⟩; rfl
 | cons o l ih =>
  intro j hist hl hlen hh r
  have hj : ops.toList[j]? = some o := by
   have := congrArg (·[0]?) hl
   simpa using this
  have ho : ops[j]? = some o := by simpa using hj
  have hjs : j < ops.size := by
   have := (B0.1 hj).1
   simpa using this
  have hstep := HQ h0 ho
  have hl' : ops.toList.drop (j + 1) = l := by
   have := congrArg (List.drop 1) hl
   simpa [List.drop_drop, Nat.add_comm] using this
  have hh' : ∀ i, i < j + 1 → ∃ o', ops[i]? = some o' ∧ (hist ++ [(Fv P (jz P G call ops A0 H0 j).1 o, (jz P G call ops A0 H0 j).2)])[i]? = some (Fv P (jz P G call ops A0 H0 i).1 o', (jz P G call ops A0 H0 i).2) := by
   intro i hi
   by_cases e : i = j
   ·subst e
    exact ⟨o, ho, by rw [List.getElem?_append_right (by omega)]; simp [hlen]⟩
   ·obtain ⟨o', h1, h2⟩ := hh i (by omega)
    exact ⟨o', h1, by rw [List.getElem?_append_left (by omega)]; exact h2⟩
  have hi := ih (j + 1) _ hl' (by simp [hlen]) hh' r;simp only [ph];rw [hstep];simp only [bG];rw [Lj, hi]
  have key : ∀ p ∈ pairs, max p.1 p.2 = j → (QR j hist (Fv P (jz P G call ops A0 H0 j).1 o) (jz P G call ops A0 H0 j).2 (jz P G call ops A0 H0 (j + 1)).2 p ↔ jD P (jz P G call ops A0 H0) ops p) := by
   intro p hpm hm;obtain ⟨h1, h2, h3⟩ := hp p hpm;unfold QR jD
   by_cases hlt : p.2 < p.1
   ·have e1 : p.1 = j := by omega
    obtain ⟨o2, _, hg⟩ := hh p.2 (by omega);rw [if_pos hlt]
    constructor
    ·intro ⟨a, _⟩ o' ho'
     rw [e1, ho] at ho';cases ho';obtain ⟨h, hg', e⟩ := a e1 (by omega);rw [hg] at hg';cases hg';rw [e1];exact e
    ·intro a
     refine ⟨fun _ _ => ⟨_, hg, ?_⟩, fun e => absurd e (by omega)⟩;have := a o (by rw [e1]; exact ho);rw [e1] at this;exact this
   ·have e2 : p.2 = j := by omega
    obtain ⟨o1, ho1, hg⟩ := hh p.1 (by omega);rw [if_neg hlt, e2]
    constructor
    ·intro ⟨_, a⟩ o' ho'
     rw [ho1] at ho';cases ho';obtain ⟨h, hg', e⟩ := a rfl (by omega);rw [hg] at hg';cases hg';exact e
    ·intro a
     refine ⟨fun e => absurd e (by omega), fun _ _ => ⟨_, hg, a o1 ho1⟩⟩
  have out : ∀ p ∈ pairs, max p.1 p.2 ≠ j → QR j hist (Fv P (jz P G call ops A0 H0 j).1 o) (jz P G call ops A0 H0 j).2 (jz P G call ops A0 H0 (j + 1)).2 p := by
   intro p hpm hm;exact ⟨fun h1 h2 => absurd hm (by omega), fun h1 h2 => absurd hm (by omega)⟩
  constructor
  ·rintro ⟨a, b, c⟩
   refine ⟨fun p hpm hm => ?_, c⟩
   by_cases e : max p.1 p.2 = j
   ·exact (key p hpm e).1 (a p hpm)
   ·exact b p hpm (by omega)
  ·rintro ⟨a, c⟩
   refine ⟨fun p hpm => ?_, fun p hpm hm => a p hpm (by omega), c⟩
   by_cases e : max p.1 p.2 = j
   ·exact (key p hpm e).2 (a p hpm (by omega))
   ·exact out p hpm e
theorem Iz {P : Program} {G : List Nat} {call : bE} {ops : Array Oper} {pairs : List (Nat × Nat)} : ∀ (l : List Oper) (j : Nat) (hist : List ((AH → Option Value) × AH)) (A : List Value) (H : AH) (r : List Value × AH), ph P G call ops pairs l j hist A H = some r → dh P G call ops l A H = some r := by
 intro l
 induction l with
 | nil => intro j hist A H r h; exact h
 | cons o l ih =>
  intro j hist A H r h;simp only [ph] at h;obtain ⟨s, hs, h⟩ := aE.1 h;simp only [dh];rw [hs];exact ih _ _ _ _ _ (Lj.1 h).2
theorem EX {ops : Array Oper} : ∀ p ∈ dR ops.toList, p.1 < ops.size ∧ p.2 < ops.size ∧ p.1 ≠ p.2 := by
 intro p hp;unfold dR at hp;simp only [List.mem_flatMap, List.mem_filter, List.mem_map] at hp;obtain ⟨x, ⟨hx, hx2⟩, y, ⟨hy, hy2⟩, rfl⟩ := hp;have hx := List.mem_zipIdx hx;have hy := List.mem_zipIdx hy;simp only [beq_iff_eq] at hx2;simp only [Bool.and_eq_true, beq_iff_eq] at hy2;refine ⟨by have := hx.2.1; simpa using this, by have := hy.2.1; simpa using this, ?_⟩;intro e;simp only at e;have e3 := hy2.1.1;have ex := hx.2.2;have ey := hy.2.2;simp only [e, Nat.sub_zero] at ex ey
 have : x.1 = y.1 := by rw [ex, ey]
 rw [this, e3] at hx2;cases hx2
theorem IJ {P : Program} {G : List Nat} {call : bE} {ops : Array Oper} {pairs : List (Nat × Nat)} (hp : ∀ p ∈ pairs, p.1 < ops.size ∧ p.2 < ops.size ∧ p.1 ≠ p.2) (A : List Value) (H : AH) :
 Gr (∀ q ∈ pairs, jD P (jz P G call ops A H) ops q) (dh P G call ops ops.toList A H) = ph P G call ops pairs ops.toList 0 [] A H := by
 cases hx : dh P G call ops ops.toList A H with
 | none =>
  cases hy : ph P G call ops pairs ops.toList 0 [] A H with
  | none => unfold Gr; split <;> rfl
  | some r => have := Iz _ _ _ _ _ _ hy; rw [hx] at this; cases this
 | some r0 =>
  have hi := NN hx hp ops.toList 0 [] rfl rfl (fun i hi => absurd hi (by omega));simp only [UN] at hi
  cases hy : ph P G call ops pairs ops.toList 0 [] A H with
  | none =>
   cases hz : Gr (∀ q ∈ pairs, jD P (jz P G call ops A H) ops q) (some r0) with
   | none => rfl
   | some r =>
    obtain ⟨h1, h2⟩ := nc hz;have := (hi r0).2 ⟨fun p hpm _ => h1 p hpm, rfl⟩;rw [hy] at this; cases this
  | some r =>
   obtain ⟨h1, h2⟩ := (hi r).1 hy;rw [j6 (fun p hpm => h1 p hpm (by omega)), h2]
noncomputable abbrev DI (P : Program) (G : List Nat) (call : bE) (ops : Array Oper) (draw : Bool) (A : List Value) (H : AH) (k : List Value → AH → Option R) : Option R :=
 match draw with
 | false => Rp P G call ops ops.toList A H k
 | true => match rP ops.toList with
  | false => none
  | true => match dR ops.toList with
   | [] => Rp P G call ops ops.toList A H k
   | p :: ps => Lc P G call ops (p :: ps) ops.toList 0 [] A H k
theorem II (P : Program) (G : List Nat) (call : bE) (ops : Array Oper) (draw : Bool) (A : List Value) (H : AH) (k : List Value → AH → Option R) : DI P G call ops draw A H k = (f6 P G call ops draw A H).bind fun s => k s.1 s.2 := by
 unfold DI f6 mj
 cases draw with
 | false => exact Ld ..
 | true =>
  simp only
  cases rP ops.toList with
  | false => rfl
  | true =>
   simp only
   cases hl : dR ops.toList with
   | nil => exact Ld ..
   | cons p ps =>
    simp only;rw [IJ (fun q hq => EX q (by rw [hl]; exact hq)), Rq]
def VW (kn : List Value → AH → Option R) (kx : Nat → List Value → AH → Option R) (kr : List Value → AH → Option R) (r : AR) : Option R :=
 match r.1 with
 | .normal => kn r.2.1 r.2.2
 | .exit i => kx i r.2.1 r.2.2
 | .ret => kr r.2.1 r.2.2
noncomputable def iW (P : Program) (G : List Nat) (call : bE) (x : Code) (A : List Value) (H : AH) (kx : Nat → List Value → AH → Option R) (kr : List Value → AH → Option R) : Option R :=
 (oF (aW P G call x) A H).bind (VW (fun _ _ => none) kx kr)
noncomputable abbrev bn (P : Program) (G : List Nat) (call : bE) : Code → List Value → AH → (List Value → AH → Option R) → (Nat → List Value → AH → Option R) → (List Value → AH → Option R) → Option R
 | .skip, A, H, kn, _, _ => kn A H
 | .label _, A, H, kn, _, _ => kn A H
 | .region _ ops draw, A, H, kn, _, _ => DI P G call ops draw A H kn
 | .seq x y, A, H, kn, kx, kr => bn P G call x A H (fun A H => bn P G call y A H kn kx kr) kx kr
 | .cond c x y, A, H, kn, kx, kr => match fD A c with
  | .bool true => bn P G call x A H kn kx kr
  | .bool false => bn P G call y A H kn kx kr
  | _ => none
 | .block id x, A, H, kn, kx, kr => bn P G call x A H kn (fun i A H => if i = id then kn A H else kx i A H) kr
 | .loop x, A, H, _, kx, kr => iW P G call x A H kx kr
 | .exit id, A, H, _, kx, _ => kx id A H
 | .ret, A, H, _, _, kr => kr A H
 | _, _, _, _, _, _ => none
theorem NL {f : List Value → AH → Option AR} : ∀ {n : Nat} {A : List Value} {H : AH} {r : AR}, eY f n A H = some r → r.1 ≠ .normal := by
 intro n
 induction n with
 | zero => intro A H r h; cases h
 | succ n ih =>
  intro A H r h;simp only [eY] at h;obtain ⟨s, hs, h⟩ := aE.1 h
  split at h
  ·exact ih h
  ·rename_i e
   cases h;exact fun he => e he
theorem NM {f : List Value → AH → Option AR} {A : List Value} {H : AH} {r : AR} (h : oF f A H = some r) : r.1 ≠ .normal := by
 obtain ⟨n, hn⟩ := dg.1 h;exact NL hn
theorem tB (P : Program) (G : List Nat) (call : bE) : ∀ (c : Code) (A : List Value) (H : AH) (kn : List Value → AH → Option R) (kx : Nat → List Value → AH → Option R) (kr : List Value → AH → Option R),
 bn P G call c A H kn kx kr = (aW P G call c A H).bind (VW kn kx kr) := by
 intro c
 induction c with
 | skip => intros; rfl
 | label => intros; rfl
 | exit => intros; rfl
 | ret => intros; rfl
 | region id ops draw =>
  intro A H kn kx kr;simp only [bn, aW];rw [II, Option.bind_map]; rfl
 | seq x y ihx ihy =>
  intro A H kn kx kr;simp only [bn, aW];rw [ihx, Option.bind_assoc]
  congr 1
  funext r
  obtain ⟨e, A1, H1⟩ := r
  cases e with
  | normal => simp only [VW]; exact ihy ..
  | exit i => rfl
  | ret => rfl
 | cond c x y ihx ihy =>
  intro A H kn kx kr;simp only [bn, aW]
  generalize fD A c = v
  cases v with
  | bool b => cases b <;> first | exact ihx .. | exact ihy ..
  | _ => rfl
 | block id x ih =>
  intro A H kn kx kr;simp only [bn, aW];rw [ih, Option.bind_map]
  congr 1
  funext r
  obtain ⟨e, A1, H1⟩ := r
  cases e with
  | normal => rfl
  | exit i =>
   simp only [VW, Function.comp]
   split <;> rfl
  | ret => rfl
 | loop x ih =>
  intro A H kn kx kr;simp only [bn, aW, iW]
  cases h : oF (aW P G call x) A H with
  | none => rfl
  | some r =>
   simp only [bG];have := NM h;obtain ⟨e, A1, H1⟩ := r
   cases e with
   | normal => exact absurd rfl this
   | exit i => rfl
   | ret => rfl
 | rangeFunc => intros; rfl
 | scope => intros; rfl
 | goto => intros; rfl
 | refuse => intros; rfl
theorem Rm (P : Program) (G : List Nat) (call : bE) (x : Code) (A : List Value) (H : AH) (kx : Nat → List Value → AH → Option R) (kr : List Value → AH → Option R) :
 iW P G call x A H kx kr = bn P G call x A H (fun A H => iW P G call x A H kx kr) kx kr := by
 rw [tB];unfold iW;rw [Q6, Option.bind_assoc]
 congr 1
 funext r
 obtain ⟨e, A1, H1⟩ := r
 cases e <;> rfl
abbrev rI (P : Program) (A : List Value) (H : AH) : List ResultVar → (List Value → Option R) → Option R
 | [], k => k []
 | .tmp t :: rs, k => rI P A H rs fun vs => k (A[t]?.getD undef :: vs)
 | .cell a t :: rs, k => tb (fB P t) fun g => match g with
  | some n => (aA n (A[a]?.getD undef) H).bind fun v => rI P A H rs fun vs => k (v :: vs)
  | none => (ar (A[a]?.getD undef) H).bind fun v => rI P A H rs fun vs => k (v :: vs)
theorem Rn (P : Program) (A : List Value) (H : AH) : ∀ (rs : List ResultVar) (k : List Value → Option R), rI P A H rs k = (rH P A H rs).bind k := by
 intro rs
 induction rs with
 | nil => intro k; rfl
 | cons r rs ih =>
  intro k;simp only [rH, Option.bind_assoc, bG]
  cases r with
  | tmp t =>
   simp only [rI, kQ, bG];rw [ih]
  | cell a t =>
   simp only [rI, kQ, Option.bind_assoc, Ia]
   congr 1
   funext g
   cases g <;> (simp only; congr 1; funext v; rw [ih])
end
def tup : List Value → Value
 | [v] => v
 | vs => .tuple vs.toArray
abbrev fE (P : Program) (rs : List ResultVar) (A : List Value) (H : AH) : Option (Value × AH) := rI P A H rs fun vs => some (tup vs, H)
noncomputable def La (P : Program) (G : List Nat) (call : bE) (n : Nat) (rs : List ResultVar) (c : Code) (args : List Value) (H : AH) : Option (Value × AH) :=
 bn P G call c (args ++ List.replicate (n - args.length) undef) H (fE P rs) (fun _ _ _ => none) (fE P rs)
theorem Lb (P : Program) (rs : List ResultVar) (A : List Value) (H : AH) : fE P rs A H = (iV P A H rs).map (·, H) := by
 unfold fE iV;rw [Rn, Option.map_map]
 cases rH P A H rs with
 | none => rfl
 | some vs =>
  simp only [bG, eR, Function.comp]
  congr 2
theorem Rl (P : Program) (G : List Nat) (call : bE) (n : Nat) (rs : List ResultVar) (c : Code) (args : List Value) (H : AH) : La P G call n rs c args H = oE P G call n rs c args H := by
 unfold La oE;rw [tB]
 congr 1
 funext r
 obtain ⟨e, A1, H1⟩ := r
 cases e with
 | normal => exact Lb ..
 | exit i => rfl
 | ret => exact Lb ..
def ce (fn : Func) : Code := fn.body.getD .skip
theorem Iy {P : Program} {G : List Nat} {f : Nat} {fn : Func} (hf : P.funcs[f]? = some fn) (hb : fn.body.isSome = true) (hn : (fn.name == "runtime.NumGoroutine") = false) (hd : ku (ce fn) = none) {args : List Value} {H : AH} {r : Value × AH}
 (h : La P G (aF P G) fn.ntmps fn.results.toList (ce fn) args H = some r) : aF P G f args H = some r := by
 cases hc : fn.body with
 | none => rw [hc] at hb; cases hb
 | some c =>
  rw [Rl] at h;unfold ce at h hd;rw [hc] at h hd;exact ZA hf hc (by simpa using hn) hd h
def Code.sub : Code → List Nat → Code
 | c, [] => c
 | .seq x _, 0 :: p => Code.sub x p
 | .seq _ y, 1 :: p => Code.sub y p
 | .cond _ x _, 2 :: p => Code.sub x p
 | .cond _ _ y, 3 :: p => Code.sub y p
 | .block _ x, 4 :: p => Code.sub x p
 | .loop x, 5 :: p => Code.sub x p
 | _, _ => .skip
def yv : Value → Option Bool
 | .bool b => some b
 | _ => none
def aZ {R : Type} (cs : List Value) (H : AH) (k : Value → AH → Option R) : Option R := k (.pointer (some ⟨H.size, 0, none⟩)) (H.push (.cells false cs))
def ZY {R : Type} (len e : Nat) (cs : List Value) (H : AH) (k : Value → AH → Option R) : Option R := k (.slice (some ⟨H.size, 0, none⟩) len e) (H.push (.cells false cs))
def B1 {R : Type} (H : AH) (k : Value → AH → Option R) : Option R := k (.map (some H.size)) (H.push (.map [] 0))
def mh {R : Type} (x : Value) (k : Value → Option R) : Option R :=
 match x with
 | .slice _ n _ => k (.int .i64 n)
 | _ => none
def WU (x : Value) : Option Value :=
 match x with
 | .slice _ _ _ => pa x
 | _ => none
def ax {R : Type} (c : Value) (x y : Option R) : Option R :=
 match c with
 | .bool true => x
 | .bool false => y
 | _ => none
def BN {α : Type} (y : Option Bool) (want : Bool) (a b : Option α) : Option α :=
 match y == some want with
 | true => a
 | false => b
theorem T4 (a b : Value) : aX (.bool true) a b = some a := rfl
theorem TZ (a b : Value) : aX (.bool false) a b = some b := rfl
abbrev vi (n : Int) : Value := .int .i64 n
abbrev vw (n : Int) : Value := .int .u64 n
abbrev vu (n : Nat) : Value := .int .u64 (n : Int)
abbrev vb (b : Bool) : Value := .bool b
inductive Stp where
 | n
 | f (k : Nat)
 | i (e : Nat) (v : Value)
 | a (len e : Nat) (v : Value)
def ad {R : Type} : List Stp → Value → (Value → Option R) → Option R
 | [], a, k => k a
 | .n :: p, a, k => (sK a).bind fun a => ad p a k
 | .f o :: p, a, k => (B4 o a).bind fun a => ad p a k
 | .i e v :: p, a, k => (nF e a v).bind fun a => ad p a k
 | .a len e v :: p, a, k => (jx len e a v).bind fun a => ad p a k
def ld {R : Type} (p : List Stp) (x : Value) (H : AH) (k : Value → Option R) : Option R := ad p x fun a => (ar a H).bind k
def ldN {R : Type} (n : Nat) (p : List Stp) (x : Value) (H : AH) (k : Value → Option R) : Option R := ad p x fun a => (aA n a H).bind k
def st {R : Type} (n : Nat) (p : List Stp) (x v : Value) (H : AH) (k : AH → Option R) : Option R := ad p x fun a => (cD n a v H).bind k
def gB (c : Value) (want : Bool) (e : Option Value) : Option Value := BN (yv c) want (e.bind some) (some undef)
def gV (c : Value) (want : Bool) (e : Value) : Option Value := BN (yv c) want (some e) (some undef)
def gE (c : Value) (want : Bool) (H : AH) (e : Option (Value × AH)) : Option (Value × AH) := BN (yv c) want e (some (undef, H))
def EM {R : Type} (c : Value) (want : Bool) : List Stp → Value → (Value → Option R) → Option R
 | [], a, k => k a
 | .n :: p, a, k => (gB c want (sK a)).bind fun a => EM c want p a k
 | .f o :: p, a, k => (gB c want (B4 o a)).bind fun a => EM c want p a k
 | .i e v :: p, a, k => (gB c want (nF e a v)).bind fun a => EM c want p a k
 | .a len e v :: p, a, k => (gB c want (jx len e a v)).bind fun a => EM c want p a k
def fT {R : Type} (c : Value) (want : Bool) (p : List Stp) (x : Value) (H : AH) (k : Value → Option R) : Option R := EM c want p x fun a => (gB c want (ar a H)).bind k
def rh {R : Type} (c : Value) (want : Bool) (n : Nat) (p : List Stp) (x : Value) (H : AH) (k : Value → Option R) : Option R := EM c want p x fun a => (gB c want (aA n a H)).bind k
def gC {R : Type} (ps : List (Nat × Nat)) (zero : List Value) (xs : List (Nat × Value)) (k : Value → Option R) : Option R := (dk (fun i => ps[i]?) zero xs).bind fun cs => k (.agg cs.toArray)
def W1 (e : Nat) (i : Nat) : Option (Nat × Nat) := some (i * e, e)
def E5 {R : Type} (len e : Nat) (zero : List Value) (xs : List (Nat × Value)) (H : AH) (k : Value → AH → Option R) : Option R := (dk (W1 e) (List.replicate len zero).flatten xs).bind fun cs => ZY len e cs H k
def iM (D : Nat) (A A' : List Value) : Prop := A.length = A'.length ∧ ∀ t, D.testBit t = false → A[t]? = A'[t]?
def jB (D : Nat) : Nat → List Value → List Value
 | _, [] => []
 | i, v :: vs => (match D.testBit i with | true => undef | false => v) :: jB D (i + 1) vs
def clear (D : Nat) (A : List Value) : List Value := jB D 0 A
theorem vx (D : Nat) : ∀ (A : List Value) (i : Nat), (jB D i A).length = A.length := by
 intro A
 induction A with
 | nil => intro i; rfl
 | cons v vs ih => intro i; simp [jB, ih]
theorem BP (D : Nat) : ∀ (A : List Value) (i t : Nat), D.testBit (i + t) = false → (jB D i A)[t]? = A[t]? := by
 intro A
 induction A with
 | nil => intro i t _; rfl
 | cons v vs ih =>
  intro i t h
  cases t with
  | zero => simp only [Nat.add_zero] at h; simp [jB, h]
  | succ t => simp only [jB, List.getElem?_cons_succ]; exact ih (i + 1) t (by rw [show i + 1 + t = i + (t + 1) from by omega]; exact h)
theorem iP (D : Nat) (A : List Value) : iM D A (clear D A) := ⟨(vx D A 0).symm, fun t h => (BP D A 0 t (by simpa using h)).symm⟩
def az {R : Type} (D : Nat) (k : List Value → AH → Option R) : Prop := ∀ A A' H, iM D A A' → k A H = k A' H
def opr (D : Nat) : Operand → Bool
 | .tmp t => !D.testBit t
 | _ => true
def KL (D : Nat) : Option Tmp → Nat
 | some d => match D.testBit d with | true => D ^^^ 2 ^ d | false => D
 | none => D
theorem Xt {D : Nat} {d : Option Tmp} {t : Nat} (h : D.testBit t = false) : (KL D d).testBit t = false := by
 unfold KL
 split
 ·split
  ·rename_i hd
   rw [Nat.testBit_xor, h, Nat.testBit_two_pow];simp;intro e;subst e; rw [h] at hd; cases hd
  ·exact h
 ·exact h
theorem Xu {D : Nat} {d : Option Tmp} {t : Nat} (h : (KL D d).testBit t = false) (hd : d ≠ some t) : D.testBit t = false := by
 unfold KL at h
 split at h
 ·rename_i d
  split at h
  ·rename_i hb
   rw [Nat.testBit_xor, Nat.testBit_two_pow] at h;have : ¬ d = t := fun e => hd (by rw [e])
   simpa [this] using h
  ·exact h
 ·exact h
def sI (D : Nat) (ops : Array Oper) (o : Oper) : Bool :=
 o.op.operands.toList.all (opr D) && match o.guard with
 | none => true
 | some g => match (ops[g.1]?).bind (·.dst) with
  | some t => !D.testBit t
  | none => true
def nE (ops : Array Oper) : List Oper → Nat → Option Nat
 | [], D => some D
 | o :: rest, D => match sI D ops o with
  | true => nE ops rest (KL D o.dst)
  | false => none
def qX : Code → Nat → Option Nat
 | .skip, D => some D
 | .label _, D => some D
 | .region _ ops _, D => nE ops ops.toList D
 | .seq x y, D => match qX x D with
  | some D1 => match qX y D1 with
   | some D2 => some D2
   | none => none
  | none => none
 | .cond c x y, D => match opr D c with
  | true => match qX x D, qX y D with
   | some D1, some D2 => some (D1 ||| D2)
   | _, _ => none
  | false => none
 | .block _ x, D => match qX x D with
  | some _ => some D
  | none => none
 | .loop x, D => match qX x D with
  | some _ => some D
  | none => none
 | .exit _, _ => some 0
 | .ret, _ => some 0
 | _, _ => none
section
variable {P : Program} {G : List Nat} {call : bE} {R : Type}
theorem iM.mono {D D' : Nat} {A A' : List Value} (h : iM D A A') (hm : ∀ t, D'.testBit t = false → D.testBit t = false) : iM D' A A' := ⟨h.1, fun t ht => h.2 t (hm t ht)⟩
theorem iM.ev {D : Nat} {A A' : List Value} (h : iM D A A') {x : Operand} (hx : opr D x = true) : fD A x = fD A' x := by
 cases x with
 | tmp t => simp only [opr, Bool.not_eq_true'] at hx; simp only [fD]; rw [h.2 t hx]
 | _ => rfl
theorem iM.put {D : Nat} {A A' : List Value} (h : iM D A A') (d : Option Tmp) (v : Value) : iM (KL D d) (kP A d v) (kP A' d v) := by
 refine ⟨by rw [ml, ml, h.1], fun t ht => ?_⟩
 by_cases hd : d = some t
 ·subst hd; rw [yA, yA, h.1]
 ·rw [tw hd, tw hd]; exact h.2 t (Xu ht hd)
theorem TO {ops : Array Oper} : ∀ {l : List Oper} {D D' : Nat}, nE ops l D = some D' → ∀ t, D.testBit t = false → D'.testBit t = false := by
 intro l
 induction l with
 | nil => intro D D' h t ht; simp only [nE] at h; cases h; exact ht
 | cons o l ih =>
  intro D D' h t ht;simp only [nE] at h
  split at h
  ·exact ih h t (Xt ht)
  ·cases h
theorem E6 : ∀ {c : Code} {D D' : Nat}, qX c D = some D' → ∀ t, D.testBit t = false → D'.testBit t = false := by
 intro c
 induction c with
 | skip => intro D D' h t ht; simp only [qX] at h; cases h; exact ht
 | label l => intro D D' h t ht; simp only [qX] at h; cases h; exact ht
 | region id ops draw => intro D D' h; simp only [qX] at h; exact TO h
 | seq x y ihx ihy =>
  intro D D' h t ht;simp only [qX] at h
  split at h
  ·rename_i D1 h1
   split at h
   ·rename_i D2 h2; cases h; exact ihy h2 t (ihx h1 t ht)
   ·cases h
  ·cases h
 | cond c x y ihx ihy =>
  intro D D' h t ht;simp only [qX] at h
  split at h
  ·split at h
   ·rename_i D1 D2 h1 h2; cases h
    rw [Nat.testBit_or, ihx h1 t ht, ihy h2 t ht]; rfl
   ·cases h
  ·cases h
 | block id x ih => intro D D' h t ht; simp only [qX] at h; split at h <;> cases h; exact ht
 | loop x ih => intro D D' h t ht; simp only [qX] at h; split at h <;> cases h; exact ht
 | exit id => intro D D' h t ht; simp only [qX] at h; cases h; simp
 | ret => intro D D' h t ht; simp only [qX] at h; cases h; simp
 | rangeFunc => intro D D' h; simp [qX] at h
 | scope => intro D D' h; simp [qX] at h
 | goto => intro D D' h; simp [qX] at h
 | refuse => intro D D' h; simp [qX] at h
inductive Both (D : Nat) : Option (List Value × AH) → Option (List Value × AH) → Prop
 | no : Both D none none
 | yes {A A' : List Value} (H : AH) (h : iM D A A') : Both D (some (A, H)) (some (A', H))
theorem Qo {ops : Array Oper} {o : Oper} {D : Nat} (ho : sI D ops o = true) {A A' : List Value} (h : iM D A A') (H : AH) : Both (KL D o.dst) (gl P G call ops o A H) (gl P G call ops o A' H) := by
 unfold sI at ho;simp only [Bool.and_eq_true] at ho;have hev : ∀ x ∈ o.op.operands.toList, fD A x = fD A' x := fun x hx => h.ev (List.all_eq_true.1 ho.1 x hx)
 have hw : Region.wanted o (dG ops A) = Region.wanted o (dG ops A') := by
  unfold Region.wanted
  cases hg : o.guard with
  | none => rfl
  | some g =>
   obtain ⟨g, want⟩ := g;rw [hg] at ho
   have hy : dG ops A g = dG ops A' g := by
    unfold dG
    cases hd : (ops[g]?).bind (·.dst) with
    | none => rfl
    | some t =>
     have h2 := ho.2;simp only [hd, Bool.not_eq_true'] at h2;simp only [bG];rw [h.2 t h2]
   simp only [hy]
 unfold gl;rw [hw, na hev H]
 split
 ·split
  ·cases eH P call (fD A') o H with
   | none => exact .no
   | some r => exact .yes r.2 (h.put o.dst r.1)
  ·exact .yes H (h.put o.dst undef)
 ·exact .no
theorem uu {ops : Array Oper} : ∀ {l : List Oper} {D D' : Nat}, nE ops l D = some D' → ∀ {A A' : List Value}, iM D A A' → ∀ H, Both D' (dh P G call ops l A H) (dh P G call ops l A' H) := by
 intro l
 induction l with
 | nil => intro D D' h A A' hA H; simp only [nE] at h; cases h; exact .yes H hA
 | cons o l ih =>
  intro D D' h A A' hA H;simp only [nE] at h
  split at h
  ·rename_i ho
   simp only [dh];have := Qo (P := P) (G := G) (call := call) ho hA H
   generalize gl P G call ops o A H = x at this
   generalize gl P G call ops o A' H = y at this
   cases this with
   | no => exact .no
   | yes H1 hA1 => exact ih h hA1 H1
  ·cases h
theorem JN {ops : Array Oper} : ∀ {l : List Oper} {D D' : Nat}, nE ops l D = some D' → ∀ i, ∃ Di, nE ops (l.take i) D = some Di ∧ ∀ o, l[i]? = some o → sI Di ops o = true := by
 intro l
 induction l with
 | nil => intro D D' h i; exact ⟨D, by cases i <;> rfl, fun o ho => by simp at ho⟩
 | cons o l ih =>
  intro D D' h i;simp only [nE] at h
  split at h
  ·rename_i ho
   cases i with
   | zero => exact ⟨D, rfl, fun o' ho' => by simp at ho'; subst ho'; exact ho⟩
   | succ i =>
    obtain ⟨Di, h1, h2⟩ := ih h i;refine ⟨Di, ?_, fun o' ho' => h2 o' (by simpa using ho')⟩;simp only [List.take_succ_cons, nE, ho];exact h1
  ·cases h
theorem NZ {ops : Array Oper} {D D' : Nat} (h : nE ops ops.toList D = some D') {A A' : List Value} (hA : iM D A A') (H : AH) : Both D' (mj P G call ops A H) (mj P G call ops A' H) := by
 unfold mj
 split
 ·exact .no
 ·split
  ·exact uu h hA H
  ·rename_i p ps hp
   have hb := uu (P := P) (G := G) (call := call) h hA H
   have key : dh P G call ops ops.toList A H ≠ none → ((∀ q ∈ p :: ps, jD P (jz P G call ops A H) ops q) ↔ ∀ q ∈ p :: ps, jD P (jz P G call ops A' H) ops q) := by
    intro hne
    have hst : ∀ i, ∃ Di, iM Di (jz P G call ops A H i).1 (jz P G call ops A' H i).1 ∧ (jz P G call ops A H i).2 = (jz P G call ops A' H i).2 ∧ ∀ o, ops[i]? = some o → sI Di ops o = true := by
     intro i;obtain ⟨Di, h1, h2⟩ := JN h i;have hbi := uu (P := P) (G := G) (call := call) h1 hA H
     cases hx : dh P G call ops ops.toList A H with
     | none => exact absurd hx hne
     | some r =>
      have h3 := u7 hx i;rw [h3] at hbi;unfold jz at hbi ⊢;rw [h3] at hbi ⊢
      generalize dh P G call ops (ops.toList.take i) A' H = y at hbi
      simp only [Option.getD_some] at hbi ⊢
      generalize hz : jz P G call ops A H i = z at hbi
      unfold jz at hz;rw [h3] at hz;simp only [Option.getD_some] at hz
      cases hbi with
      | yes H1 hA1 =>
       exact ⟨Di, hA1, rfl, fun o ho => h2 o (by simpa using ho)⟩
    have one : ∀ q, jD P (jz P G call ops A H) ops q ↔ jD P (jz P G call ops A' H) ops q := by
     intro q;unfold jD;obtain ⟨D1, a1, e1, o1⟩ := hst q.1;obtain ⟨D2, a2, e2, o2⟩ := hst (if q.2 < q.1 then q.2 else q.2 + 1)
     constructor
     ·intro hl o ho
      have hev : ∀ x ∈ o.op.operands.toList, fD (jz P G call ops A H q.1).1 x = fD (jz P G call ops A' H q.1).1 x := fun x hx => a1.ev (by
       have := o1 o ho;unfold sI at this;simp only [Bool.and_eq_true] at this
       exact List.all_eq_true.1 this.1 x hx)
      have := hl o ho;rw [qG hev, qG hev, e1, e2] at this;exact this
     ·intro hl o ho
      have hev : ∀ x ∈ o.op.operands.toList, fD (jz P G call ops A H q.1).1 x = fD (jz P G call ops A' H q.1).1 x := fun x hx => a1.ev (by
       have := o1 o ho;unfold sI at this;simp only [Bool.and_eq_true] at this
       exact List.all_eq_true.1 this.1 x hx)
      rw [qG hev, qG hev, e1, e2];exact hl o ho
    exact ⟨fun hl q hq => (one q).1 (hl q hq), fun hl q hq => (one q).2 (hl q hq)⟩
   have hn : dh P G call ops ops.toList A H = none → dh P G call ops ops.toList A' H = none := by
    intro e; rw [e] at hb; generalize dh P G call ops ops.toList A' H = y at hb; cases hb; rfl
   by_cases hne : dh P G call ops ops.toList A H = none
   ·rw [hne, hn hne]
    unfold Gr
    have : ∀ (c : Prop) [Decidable c], (if c then (none : Option (List Value × AH)) else none) = none := fun c _ => by split <;> rfl
    rw [this, this]; exact .no
   ·unfold Gr
    by_cases hc : ∀ q ∈ p :: ps, jD P (jz P G call ops A H) ops q
    ·rw [if_pos hc, if_pos ((key hne).1 hc)]; exact hb
    ·rw [if_neg hc, if_neg (fun h => hc ((key hne).2 h))]; exact .no
inductive BothR (D D' : Nat) : Option AR → Option AR → Prop
 | no : BothR D D' none none
 | normal {A A' : List Value} (H : AH) (h : iM D' A A') : BothR D D' (some (.normal, A, H)) (some (.normal, A', H))
 | exit (i : Nat) {A A' : List Value} (H : AH) (h : iM D A A') : BothR D D' (some (.exit i, A, H)) (some (.exit i, A', H))
 | ret {A A' : List Value} (H : AH) (h : iM D A A') : BothR D D' (some (.ret, A, H)) (some (.ret, A', H))
theorem Cv : ∀ {c : Code} {D D' : Nat}, qX c D = some D' → ∀ {A A' : List Value}, iM D A A' → ∀ H, BothR D D' (aW P G call c A H) (aW P G call c A' H) := by
 intro c
 induction c with
 | skip => intro D D' h A A' hA H; simp only [qX] at h; cases h; exact .normal H hA
 | label l => intro D D' h A A' hA H; simp only [qX] at h; cases h; exact .normal H hA
 | exit id => intro D D' h A A' hA H; exact .exit id H hA
 | ret => intro D D' h A A' hA H; exact .ret H hA
 | region id ops draw =>
  intro D D' h A A' hA H;simp only [qX] at h;simp only [aW]
  have hb : Both D' (f6 P G call ops draw A H) (f6 P G call ops draw A' H) := by
   cases draw with
   | true => exact NZ h hA H
   | false => exact uu h hA H
  generalize f6 P G call ops draw A H = x at hb
  generalize f6 P G call ops draw A' H = y at hb
  cases hb with
  | no => exact .no
  | yes H1 hA1 => exact .normal H1 hA1
 | seq x y ihx ihy =>
  intro D D' h A A' hA H;simp only [qX] at h
  split at h
  ·rename_i D1 h1
   split at h
   ·rename_i D2 h2
    cases h;simp only [aW];have hb := ihx h1 hA H
    generalize aW P G call x A H = u at hb
    generalize aW P G call x A' H = v at hb
    cases hb with
    | no => exact .no
    | normal H1 hA1 =>
     have hb2 := ihy h2 hA1 H1;simp only [bG]
     rename_i A1 A1'
     generalize aW P G call y A1 H1 = u at hb2
     generalize aW P G call y A1' H1 = v at hb2
     cases hb2 with
     | no => exact .no
     | normal H2 hA2 => exact .normal H2 hA2
     | exit i H2 hA2 => exact .exit i H2 (hA2.mono (fun t ht => E6 h1 t ht))
     | ret H2 hA2 => exact .ret H2 (hA2.mono (fun t ht => E6 h1 t ht))
    | exit i H1 hA1 => exact .exit i H1 hA1
    | ret H1 hA1 => exact .ret H1 hA1
   ·cases h
  ·cases h
 | cond c x y ihx ihy =>
  intro D D' h A A' hA H;simp only [qX] at h
  split at h
  ·rename_i hc
   split at h
   ·rename_i D1 D2 h1 h2
    cases h;simp only [aW];rw [hA.ev hc]
    have m1 : ∀ t, (D1 ||| D2).testBit t = false → D1.testBit t = false := fun t ht => by rw [Nat.testBit_or, Bool.or_eq_false_iff] at ht; exact ht.1
    have m2 : ∀ t, (D1 ||| D2).testBit t = false → D2.testBit t = false := fun t ht => by rw [Nat.testBit_or, Bool.or_eq_false_iff] at ht; exact ht.2
    generalize fD A' c = v
    cases v with
    | bool b =>
     cases b with
     | true =>
      have hb := ihx h1 hA H;simp only
      generalize aW P G call x A H = u at hb
      generalize aW P G call x A' H = v at hb
      cases hb with
      | no => exact .no
      | normal H1 hA1 => exact .normal H1 (hA1.mono m1)
      | exit i H1 hA1 => exact .exit i H1 hA1
      | ret H1 hA1 => exact .ret H1 hA1
     | false =>
      have hb := ihy h2 hA H;simp only
      generalize aW P G call y A H = u at hb
      generalize aW P G call y A' H = v at hb
      cases hb with
      | no => exact .no
      | normal H1 hA1 => exact .normal H1 (hA1.mono m2)
      | exit i H1 hA1 => exact .exit i H1 hA1
      | ret H1 hA1 => exact .ret H1 hA1
    | _ => exact .no
   ·cases h
  ·cases h
 | block id x ih =>
  intro D D' h A A' hA H;simp only [qX] at h
  split at h <;> cases h
  rename_i D1 h1
  simp only [aW];have hb := ih h1 hA H
  generalize aW P G call x A H = u at hb
  generalize aW P G call x A' H = v at hb
  cases hb with
  | no => exact .no
  | normal H1 hA1 => exact .normal H1 (hA1.mono (fun t ht => E6 h1 t ht))
  | exit i H1 hA1 =>
   simp only [eR]
   split
   ·exact .normal H1 hA1
   ·exact .exit i H1 hA1
  | ret H1 hA1 => exact .ret H1 hA1
 | loop x ih =>
  intro D D' h A A' hA H;simp only [qX] at h
  split at h <;> cases h
  rename_i D1 h1
  simp only [aW]
  have it : ∀ n {A A' : List Value} (H : AH), iM D A A' → BothR D D (eY (aW P G call x) n A H) (eY (aW P G call x) n A' H) := by
   intro n
   induction n with
   | zero => intro A A' H _; exact .no
   | succ n ihn =>
    intro A A' H hA;simp only [eY];have hb := ih h1 hA H
    generalize aW P G call x A H = u at hb
    generalize aW P G call x A' H = v at hb
    cases hb with
    | no => exact .no
    | normal H1 hA1 => exact ihn H1 (hA1.mono (fun t ht => E6 h1 t ht))
    | exit i H1 hA1 => exact .exit i H1 hA1
    | ret H1 hA1 => exact .ret H1 hA1
  cases hl : oF (aW P G call x) A H with
  | some r =>
   obtain ⟨n, hn⟩ := dg.1 hl;have hb := it n H hA;rw [hn] at hb
   cases hm : eY (aW P G call x) n A' H with
   | none => rw [hm] at hb; cases hb
   | some r' =>
    rw [dg.2 ⟨n, hm⟩];rw [hm] at hb;exact hb
  | none =>
   cases hl' : oF (aW P G call x) A' H with
   | none => exact .no
   | some r' =>
    obtain ⟨n, hn⟩ := dg.1 hl';have hb := it n H hA;rw [hn] at hb
    cases hm : eY (aW P G call x) n A H with
    | none => rw [hm] at hb; cases hb
    | some r => rw [dg.2 ⟨n, hm⟩] at hl; cases hl
 | rangeFunc => intro D D' h; simp [qX] at h
 | scope => intro D D' h; simp [qX] at h
 | goto => intro D D' h; simp [qX] at h
 | refuse => intro D D' h; simp [qX] at h
def Ce (D D' : Nat) : Bool := D ||| D' == D'
theorem Np {D D' : Nat} (h : Ce D D' = true) : ∀ t, D'.testBit t = false → D.testBit t = false := by
 intro t ht;unfold Ce at h
 have e : D ||| D' = D' := by simpa using h
 rw [← e, Nat.testBit_or, Bool.or_eq_false_iff] at ht;exact ht.1
theorem az.le {D D' : Nat} {k : List Value → AH → Option R} (h : az D' k) (hs : Ce D D' = true) : az D k := fun A A' H hA => h A A' H (hA.mono (Np hs))
def vY (c : Code) (D D' : Nat) : Bool := match qX c D with
 | some D1 => Ce D1 D'
 | none => false
theorem Qd {c : Code} {D D' : Nat} {kn : List Value → AH → Option R} {kx : Nat → List Value → AH → Option R} {kr : List Value → AH → Option R} (h : vY c D D' = true) (hn : az D' kn) (hx : ∀ i, az D (kx i)) (hr : az D kr) :
 az D (fun A H => bn P G call c A H kn kx kr) := by
 intro A A' H hA;unfold vY at h
 split at h
 ·rename_i D1 h1
  simp only;rw [tB, tB];have hb := Cv (P := P) (G := G) (call := call) h1 hA H
  generalize aW P G call c A H = u at hb
  generalize aW P G call c A' H = v at hb
  cases hb with
  | no => rfl
  | normal H1 hA1 => exact hn _ _ H1 (hA1.mono (Np h))
  | exit i H1 hA1 => exact hx i _ _ H1 hA1
  | ret H1 hA1 => exact hr _ _ H1 hA1
 ·cases h
theorem Qe {c : Code} {D : Nat} {kx : Nat → List Value → AH → Option R} {kr : List Value → AH → Option R} (h : vY c D D = true) (hx : ∀ i, az D (kx i)) (hr : az D kr) :
 az D (fun A H => iW P G call c A H kx kr) := by
 intro A A' H hA;unfold vY at h
 split at h
 ·rename_i D1 h1
  have hb := Cv (P := P) (G := G) (call := call) (c := .loop c) (D := D) (D' := D) (by simp only [qX, h1]) hA H;simp only [aW] at hb;simp only [iW]
  generalize oF (aW P G call c) A H = u at hb
  generalize oF (aW P G call c) A' H = v at hb
  cases hb with
  | no => rfl
  | normal H1 hA1 => rfl
  | exit i H1 hA1 => exact hx i _ _ H1 hA1
  | ret H1 hA1 => exact hr _ _ H1 hA1
 ·cases h
def MS (D : Nat) (rs : List ResultVar) : Bool := rs.all fun r => match r with
 | .tmp t => !D.testBit t
 | .cell a _ => !D.testBit a
theorem Qf {D : Nat} : ∀ {rs : List ResultVar} (_ : MS D rs = true) (k : List Value → AH → Option R), az D (fun A H => rI P A H rs fun vs => k vs H) := by
 intro rs
 induction rs with
 | nil => intro _ k A A' H hA; rfl
 | cons r rs ih =>
  intro h k A A' H hA;unfold MS at h;simp only [List.all_cons, Bool.and_eq_true] at h
  cases r with
  | tmp t =>
   simp only [Bool.not_eq_true'] at h;simp only [rI];rw [hA.2 t h.1];exact ih h.2 (fun vs H => k ((A'[t]?.getD undef) :: vs) H) A A' H hA
  | cell a t =>
   simp only [Bool.not_eq_true'] at h;simp only [rI];rw [hA.2 a h.1, Ia, Ia]
   congr 1
   funext g
   cases g <;> (simp only; congr 1; funext v; exact ih h.2 (fun vs H => k (v :: vs) H) A A' H hA)
theorem Ux {D : Nat} {rs : List ResultVar} (h : MS D rs = true) : az D (fE P rs) := Qf h fun vs H => some (tup vs, H)
theorem Qg {D : Nat} : az D (fun (_ : List Value) (_ : AH) => (none : Option R)) := fun _ _ _ _ => rfl
theorem Ko {D id : Nat} {kn : List Value → AH → Option R} {kx : Nat → List Value → AH → Option R} (hn : az D kn) (hx : ∀ i, az D (kx i)) : ∀ i, az D (fun A H => if i = id then kn A H else kx i A H) := by
 intro i A A' H hA;simp only
 split
 ·exact hn _ _ _ hA
 ·exact hx i _ _ _ hA
theorem Bf {D : Nat} {n : List Value → AH → Option R} (h : az D n) : az D (fun A H => n (clear D A) H) := by
 intro A A' H hA;simp only;rw [← h A (clear D A) H (iP D A), ← h A' (clear D A') H (iP D A')];exact h A A' H hA
variable {A : List Value} {H : AH} {kn : List Value → AH → Option R} {kx : Nat → List Value → AH → Option R} {kr : List Value → AH → Option R}
theorem VU {c x y : Code} {e : Operand} (h : c = .cond e x y) : bn P G call c A H kn kx kr = ax (fD A e) (bn P G call x A H kn kx kr) (bn P G call y A H kn kx kr) := by subst h; rfl
theorem Gl {c x : Code} {id : Nat} (h : c = .block id x) {D : Nat} {n : Nat → List Value → AH → Option R} (hn : n = fun i A H => if i = id then kn A H else kx i A H) (hD : ∀ i, az D (n i)) :
 bn P G call c A H kn kx kr = bn P G call x A H kn (fun i A H => n i (clear D A) H) kr := by
 subst h
 have e : (fun i A H => n i (clear D A) H) = n := by
  funext i A H
  exact (hD i A (clear D A) H (iP D A)).symm
 rw [e, hn]; try rfl
theorem WV {c x : Code} (h : c = .loop x) : bn P G call c A H kn kx kr = iW P G call x A H kx kr := by subst h; rfl
theorem JI {x : Code} {D : Nat} {n : List Value → AH → Option R} (hn : n = fun A H => iW P G call x A H kx kr) (hD : az D n) : iW P G call x A H kx kr = n (clear D A) H := by
 have := hD A (clear D A) H (iP D A);rw [← this, hn]
theorem JH {x : Code} {D : Nat} {n : List Value → AH → Option R} (hn : n = fun A H => iW P G call x A H kx kr) (hD : az D n) :
 iW P G call x A H kx kr = bn P G call x A H (fun A H => n (clear D A) H) kx kr := by
 have e : (fun A H => n (clear D A) H) = n := by
  funext A H
  exact (hD A (clear D A) H (iP D A)).symm
 rw [e, hn]; exact Rm ..
def Code.pre : Nat → Code → Code
 | 0, .seq x _ => x
 | k + 1, .seq x y => .seq x (Code.pre k y)
 | _, c => c
def Code.post : Nat → Code → Code
 | 0, .seq _ y => y
 | k + 1, .seq _ y => Code.post k y
 | _, _ => .skip
theorem YY : ∀ (k : Nat) (c : Code) (A : List Value) (H : AH), bn P G call c A H kn kx kr = bn P G call (Code.pre k c) A H (fun A H => bn P G call (Code.post k c) A H kn kx kr) kx kr := by
 intro k
 induction k with
 | zero => intro c A H; cases c <;> rfl
 | succ k ih =>
  intro c A H
  cases c with
  | seq x y =>
   have e : (fun A H => bn P G call y A H kn kx kr) = fun A H => bn P G call (Code.pre k y) A H (fun A H => bn P G call (Code.post k y) A H kn kx kr) kx kr := by
    funext A H; exact ih y A H
   show bn P G call x A H (fun A H => bn P G call y A H kn kx kr) kx kr = _;rw [e]; rfl
  | _ => rfl
variable {l T : Option R}
theorem YZ {c : Code} {k D : Nat} {n : List Value → AH → Option R} (h0 : l = bn P G call c A H kn kx kr) (hn : n = fun A H => bn P G call (Code.post k c) A H kn kx kr) (hD : az D n)
 (h1 : bn P G call (Code.pre k c) A H (fun A H => n (clear D A) H) kx kr = T) : l = T := by
 have e : (fun A H => n (clear D A) H) = n := by
  funext A H
  exact (hD A (clear D A) H (iP D A)).symm
 rw [e, hn] at h1;exact h0.trans ((YY k c A H).trans h1)
theorem Rv {v v' : Value} {x x' y y' : Option R} (h : v = v') (hx : x = x') (hy : y = y') : ax v x y = ax v' x' y' := by rw [h, hx, hy]
theorem VV {c x y : Code} {e : Operand} (h0 : l = bn P G call c A H kn kx kr) (h : c = .cond e x y) (h1 : ax (fD A e) (bn P G call x A H kn kx kr) (bn P G call y A H kn kx kr) = T) : l = T := h0.trans ((VU h).trans h1)
theorem Rk {c x : Code} {id D : Nat} {n : Nat → List Value → AH → Option R} (h0 : l = bn P G call c A H kn kx kr) (h : c = .block id x) (hn : n = fun i A H => if i = id then kn A H else kx i A H) (hD : ∀ i, az D (n i))
 (h1 : bn P G call x A H kn (fun i A H => n i (clear D A) H) kr = T) : l = T := h0.trans ((Gl h hn hD).trans h1)
theorem WW {c x : Code} {D : Nat} {n : List Value → AH → Option R} (h0 : l = bn P G call c A H kn kx kr) (h : c = .loop x) (hn : n = fun A H => iW P G call x A H kx kr) (hD : az D n) (h1 : n (clear D A) H = T) : l = T :=
 h0.trans ((WV h).trans ((JI hn hD).trans h1))
theorem WX {x : Code} {D : Nat} {n : List Value → AH → Option R} (h0 : l = iW P G call x A H kx kr) (hn : n = fun A H => iW P G call x A H kx kr) (hD : az D n)
 (h1 : bn P G call x A H (fun A H => n (clear D A) H) kx kr = T) : l = T := h0.trans ((JH hn hD).trans h1)
end
abbrev OV := Option (Value × AH)
abbrev u : Value := undef
abbrev KK := List Value → AH → OV
abbrev KX := Nat → List Value → AH → OV
noncomputable abbrev CK (P : Program) (G : List Nat) (call : bE) (c : Code) (kn : KK) (kx : KX) (kr : KK) : KK := fun A H => bn P G call c A H kn kx kr
noncomputable abbrev CL (P : Program) (G : List Nat) (call : bE) (c : Code) (kx : KX) (kr : KK) : KK := fun A H => iW P G call c A H kx kr
abbrev BX (id : Nat) (kn : KK) (kx : KX) : KX := fun i A H => if i = id then kn A H else kx i A H
abbrev jv (D : Nat) (n : KK) : KK := fun A H => n (clear D A) H
abbrev FV (D : Nat) (n : KX) : KX := fun i A H => n i (clear D A) H
def ca : KX := fun _ _ _ => none
def ZM : Nat := 2 ^ 4096 - 1
def ls (l : List Value) (n : Nat) : List Value := l ++ List.replicate n u
section
variable {P : Program} {G : List Nat} {call : bE} {A : List Value} {H : AH} {kn : KK} {kx : KX} {kr : KK} {l T : OV}
theorem aH : ∀ i, az ZM (ca i) := fun _ => Qg
theorem rf {rs : List ResultVar} {D : Nat} (h : MS D rs = true := by kernel_rfl) : az D (fE P rs) := Ux h
theorem rc {c : Code} {D Dn Dx Dr : Nat} (hn : az Dn kn) (hx : ∀ i, az Dx (kx i)) (hr : az Dr kr) (h : (vY c D Dn && (Ce D Dx && Ce D Dr)) = true := by kernel_rfl) : az D (CK P G call c kn kx kr) := by
 simp only [Bool.and_eq_true] at h;exact Qd h.1 hn (fun i => (hx i).le h.2.1) (hr.le h.2.2)
theorem rl {c : Code} {D Dx Dr : Nat} (hx : ∀ i, az Dx (kx i)) (hr : az Dr kr) (h : (vY c D D && (Ce D Dx && Ce D Dr)) = true := by kernel_rfl) : az D (CL P G call c kx kr) := by
 simp only [Bool.and_eq_true] at h;exact Qe h.1 (fun i => (hx i).le h.2.1) (hr.le h.2.2)
theorem rb {D id Dn Dx : Nat} (hn : az Dn kn) (hx : ∀ i, az Dx (kx i)) (h : (Ce D Dn && Ce D Dx) = true := by kernel_rfl) : ∀ i, az D (BX id kn kx i) := by
 simp only [Bool.and_eq_true] at h;exact Ko (hn.le h.1) (fun i => (hx i).le h.2)
theorem cd {D : Nat} {n : KK} (h : az D n) : az D (jv D n) := Bf h
theorem cx {D : Nat} {n : KX} (h : ∀ i, az D (n i)) : ∀ i, az D (FV D n i) := fun i => Bf (h i)
theorem pt {c : Code} {D : Nat} {n : KK} (h0 : l = bn P G call c A H kn kx kr) (k : Nat) (hD : az D n) (h1 : bn P G call (Code.pre k c) A H (jv D n) kx kr = T)
 (hn : n = fun A H => bn P G call (Code.post k c) A H kn kx kr := by kernel_rfl) : l = T := YZ h0 hn hD h1
theorem ct {c : Code} (h0 : l = bn P G call c A H kn kx kr) (x y : Code) (e : Operand) {v : Value} {X Y : OV} (hx : bn P G call x A H kn kx kr = X) (hy : bn P G call y A H kn kx kr = Y)
 (h : c = .cond e x y := by kernel_rfl) (he : fD A e = v := by kernel_rfl) : l = ax v X Y := VV h0 h (Rv he hx hy)
theorem bt {c : Code} {D : Nat} {n : KX} (h0 : l = bn P G call c A H kn kx kr) (x : Code) (id : Nat) (hD : ∀ i, az D (n i)) (h1 : bn P G call x A H kn (FV D n) kr = T)
 (h : c = .block id x := by kernel_rfl) (hn : n = fun i A H => if i = id then kn A H else kx i A H := by kernel_rfl) : l = T := Rk h0 h hn hD h1
theorem li {c : Code} {D : Nat} {n : KK} (h0 : l = bn P G call c A H kn kx kr) (x : Code) (hD : az D n) (h1 : n (clear D A) H = T) (h : c = .loop x := by kernel_rfl)
 (hn : n = fun A H => iW P G call x A H kx kr := by kernel_rfl) : l = T := WW h0 h hn hD h1
theorem PJ {x : Code} {D : Nat} {n : KK} (h0 : l = iW P G call x A H kx kr) (hD : az D n) (h1 : bn P G call x A H (jv D n) kx kr = T)
 (hn : n = fun A H => iW P G call x A H kx kr := by kernel_rfl) : l = T := WX h0 hn hD h1
theorem ht' {id : Nat} (h0 : l = BX id kn kx id A H) (h1 : kn A H = T) : l = T := by rw [h0, ← h1]; simp [BX]
theorem fo {f : Nat} {fn : Func} (hf : P.funcs[f]? = some fn) {args : List Value} {t : OV} {r : Value × AH} (e : La P G (aF P G) fn.ntmps fn.results.toList (ce fn) args H = t) (h : t = some r)
 (hb : fn.body.isSome = true := by kernel_rfl) (hn : (fn.name == "runtime.NumGoroutine") = false := by kernel_rfl) (hd : ku (ce fn) = none := by kernel_rfl) : aF P G f args H = some r := Iy hf hb hn hd (e.trans h)
end
end Go.Proofs.YtflbeghglllknaaGreatDoor.Gst
namespace Go.Proofs.YtflbeghglllknaaGreatDoor.Gst
open Go Go.RowKit Go.ChangeShapes
set_option linter.unusedSimpArgs false
def fN (H H' : AH) : Prop := H.size ≤ H'.size ∧ ∀ b, b < H.size → H'.get b = H.get b
theorem fN.refl (H : AH) : fN H H := ⟨bK _, fun _ _ => rfl⟩
theorem fN.trans {A B C : AH} (h : fN A B) (k : fN B C) : fN A C := ⟨fF h.1 k.1, fun b hb => by rw [k.2 b (by have := h.1; omega), h.2 b hb]⟩
theorem fN.push (H : AH) (o : AObj) : fN H (H.push o) := ⟨by rw [AH.size_push]; omega, fun b hb => AH.get_push_old hb⟩
theorem fN.get {H H' : AH} (h : fN H H') {b : Nat} {o : AObj} (hb : H.get b = some o) : H'.get b = some o := by rw [h.2 b (AH.lt_of_get hb)]; exact hb
inductive Ty where
 | int (k : IntKind)
 | bool
 | slice (t : Ty)
 | unit
 | pair (a b : Ty)
def Ty.w : Ty → Nat
 | .int _ | .bool | .slice _ => 1
 | .unit => 0
 | .pair a b => a.w + b.w
abbrev Ty.I : Ty → Type
 | .int _ => Int
 | .bool => Bool
 | .slice t => List t.I
 | .unit => Unit
 | .pair a b => a.I × b.I
inductive ks {α : Type} (R : α → List Value → Prop) : List α → List Value → Prop
 | nil : ks R [] []
 | cons {x : α} {l : List α} {c cs : List Value} (h : R x c) (k : ks R l cs) : ks R (x :: l) (c ++ cs)
def Abs (H : AH) : (t : Ty) → t.I → List Value → Prop
 | .int k, n, cs => cs = [.int k n] ∧ (Lit.int k n).wf = true
 | .bool, b, cs => cs = [.bool b]
 | .unit, _, cs => cs = []
 | .pair a b, x, cs => ∃ c1 c2, cs = c1 ++ c2 ∧ Abs H a x.1 c1 ∧ Abs H b x.2 c2
 | .slice t, l, cs => (l = [] ∧ cs = [.slice none 0 0]) ∨ (l = [] ∧ ∃ b, cs = [.slice (some ⟨b, 0, none⟩) 0 0]) ∨
  ∃ b row, H.get b = some (.cells true row) ∧ cs = [.slice (some ⟨b, 0, none⟩) l.length t.w] ∧ ks (Abs H t) l row ∧ l.length ≤ maxLen
theorem ks.mono {α : Type} {R S : α → List Value → Prop} (h : ∀ x c, R x c → S x c) {l : List α} {cs : List Value} (k : ks R l cs) : ks S l cs := by
 induction k with
 | nil => exact .nil
 | cons h1 _ ih => exact .cons (h _ _ h1) ih
theorem Abs.keep {H H' : AH} (k : fN H H') : ∀ (t : Ty) (x : t.I) (cs : List Value), Abs H t x cs → Abs H' t x cs := by
 intro t
 induction t with
 | int k => intro x cs h; exact h
 | bool => intro x cs h; exact h
 | unit => intro x cs h; exact h
 | pair a b iha ihb =>
  intro x cs h;obtain ⟨c1, c2, e, h1, h2⟩ := h;exact ⟨c1, c2, e, iha _ _ h1, ihb _ _ h2⟩
 | slice t ih =>
  intro x cs h
  rcases h with h | h | ⟨b, row, h1, h2, h3, h4⟩
  ·exact .inl h
  ·exact .inr (.inl h)
  ·exact .inr (.inr ⟨b, row, k.get h1, h2, h3.mono ih, h4⟩)
theorem ks.length {α : Type} {R : α → List Value → Prop} {n : Nat} (h : ∀ x c, R x c → c.length = n) {l : List α} {cs : List Value} (k : ks R l cs) : cs.length = l.length * n := by
 induction k with
 | nil => simp
 | cons h1 _ ih => rw [uh, h _ _ h1, ih, List.length_cons, Nat.add_mul]; omega
theorem Abs.length {H : AH} : ∀ (t : Ty) (x : t.I) (cs : List Value), Abs H t x cs → cs.length = t.w := by
 intro t
 induction t with
 | int k => intro x cs h; rw [h.1]; rfl
 | bool => intro x cs h; have h : cs = _ := h; rw [h]; rfl
 | unit => intro x cs h; have h : cs = _ := h; rw [h]; rfl
 | pair a b iha ihb =>
  intro x cs h;obtain ⟨c1, c2, e, h1, h2⟩ := h;rw [e, uh, iha _ _ h1, ihb _ _ h2]; rfl
 | slice t ih =>
  intro x cs h
  rcases h with h | ⟨_, b, h⟩ | ⟨b, row, h1, h2, h3, h4⟩
  ·rw [h.2]; rfl
  ·rw [h]; rfl
  ·rw [h2]; rfl
def y9 : (t : Ty) → t.I → Prop
 | .int _, _ => True
 | .bool, _ => True
 | .unit, _ => True
 | .pair a b, x => y9 a x.1 ∧ y9 b x.2
 | .slice t, l => l.length ≤ reachBytes ∧ ∀ x ∈ l, y9 t x
def Ym {Hd : Type} (P : Program) (t : TypeId) (d : DataW Hd) : Prop := ∀ n ∈ DataW.weights P t d, n ≤ reachBytes
theorem qA {Hd : Type} {P : Program} {e : TypeId} {d : DataW Hd} {n : Nat} : ∀ {l : List (DataW Hd)}, d ∈ l → n ∈ DataW.weights P e d → n ∈ DataW.weightsAll P e l := by
 intro l
 induction l with
 | nil => intro h; cases h
 | cons x l ih =>
  intro h hn;rw [DataW.weightsAll, List.mem_append]
  rcases List.mem_cons.1 h with rfl | h
  ·exact .inl hn
  ·exact .inr (ih h hn)
theorem yy {Hd : Type} {P : Program} {n : Nat} : ∀ {ts : List TypeId} {ds : List (DataW Hd)} {i : Nat} {t : TypeId} {d : DataW Hd}, ts[i]? = some t → ds[i]? = some d → n ∈ DataW.weights P t d → n ∈ DataW.weightsEach P ts ds := by
 intro ts
 induction ts with
 | nil => intro ds i t d h; simp at h
 | cons t0 ts ih =>
  intro ds i t d h1 h2 hn
  cases ds with
  | nil => simp at h2
  | cons d0 ds =>
   rw [DataW.weightsEach, List.mem_append]
   cases i with
   | zero =>
    simp at h1 h2;subst h1; subst h2;exact .inl hn
   | succ i => exact .inr (ih (by simpa using h1) (by simpa using h2) hn)
def o8 (P : Program) : Ty → (TypeId → Bool) × (List Field → Nat → Bool)
 | .int k => (fun t => match P.underlying t with | some (.int k') => k' == k && P.cellsOf t == 1 | _ => false, fun _ _ => false)
 | .bool => (fun t => match P.underlying t with | some .bool => P.cellsOf t == 1 | _ => false, fun _ _ => false)
 | .slice ty => (fun t => match P.underlying t with | some (.slice e) => (o8 P ty).1 e && P.cellsOf e == ty.w && decide (0 < ty.w ∧ 0 < P.bytesOf e) && P.cellsOf t == 1 | _ => false, fun _ _ => false)
 | .unit => (fun _ => false, fun fs _ => fs.isEmpty)
 | .pair a b =>
  let F : List Field → Nat → Bool := fun fs off => match fs with
   | f :: fs => f.offset == off && (o8 P a).1 f.type && P.cellsOf f.type == a.w && (o8 P b).2 fs (off + a.w)
   | [] => false
  (fun t => match P.underlying t with | some (.struct fs) => P.cellsOf t == a.w + b.w && F fs.toList 0 | _ => false, F)
section
variable {Hd : Type} {enc : TypeId × Value → Hd} {P : Program} {w : World} {held : Bool}
theorem Rel.pushRo {B : Nat} {w0 : World} {ρ : bL} {H : AH} (h : Rel P w0 B ρ H w) {row : List Value} {c d sz : Nat} (hc : c < w.heap.size) (hcB : c < B) (hor : pf P ρ d sz (.cells true row) w.heap[c]?) :
 Rel P w0 B (ρ.upd H.size (c, d, sz)) (H.push (.cells true row)) w := by
 have hnone : ρ H.size = none := by
  cases hn : ρ H.size with
  | none => rfl
  | some x => have := h.dom _ _ hn; omega
 have hle := bL.upd_le (x := (c, d, sz)) hnone
 have key : ∀ b1 o1, (H.push (.cells true row)).get b1 = some o1 → (b1 = H.size ∧ o1 = .cells true row) ∨ (b1 < H.size ∧ H.get b1 = some o1) := by
  intro b1 o1 h1;rw [AH.get_push] at h1
  by_cases hb1 : b1 = H.size
  ·rw [if_pos hb1] at h1; exact .inl ⟨hb1, (hF h1).symm⟩
  ·rw [if_neg hb1] at h1; exact .inr ⟨AH.lt_of_get h1, h1⟩
 have old : ∀ {b1 c1 d1 sz1}, b1 < H.size → ρ.upd H.size (c, d, sz) b1 = some (c1, d1, sz1) → ρ b1 = some (c1, d1, sz1) := by
  intro b1 c1 d1 sz1 hb1 hx
  rwa [bL.upd_ne (by omega)] at hx
 have new : ∀ {c1 d1 sz1}, ρ.upd H.size (c, d, sz) H.size = some (c1, d1, sz1) → c1 = c ∧ d1 = d ∧ sz1 = sz := by
  intro c1 d1 sz1 hx;rw [bL.upd_same] at hx;cases hx;exact ⟨rfl, rfl, rfl⟩
 refine ⟨h.base, h.below, ?_, ?_, ?_, ?_, ?_, ?_⟩
 ·intro b1 x hx
  rw [AH.size_push]
  by_cases hb1 : b1 = H.size
  ·omega
  ·rw [bL.upd_ne hb1] at hx; have := h.dom b1 x hx; omega
 ·intro b1 c1 d1 sz1 hx
  by_cases hb1 : b1 = H.size
  ·subst hb1
   obtain ⟨rfl, _, _⟩ := new hx;exact hc
  ·rw [bL.upd_ne hb1] at hx; exact h.blk b1 c1 d1 sz1 hx
 ·intro b1 c1 d1 sz1 o1 hx h1
  rcases key b1 o1 h1 with ⟨rfl, rfl⟩ | ⟨hb1, h1⟩
  ·obtain ⟨rfl, rfl, rfl⟩ := new hx
   exact hor.mono hle
  ·exact (h.obj b1 c1 d1 sz1 o1 (old hb1 hx) h1).mono hle
 ·intro b1 c1 d1 sz1 o1 hx h1 hrw
  rcases key b1 o1 h1 with ⟨rfl, rfl⟩ | ⟨hb1, h1⟩
  ·cases hrw
  ·exact h.own b1 c1 d1 sz1 o1 (old hb1 hx) h1 hrw
 ·intro b1 c1 d1 sz1 cs1 hx h1
  rcases key b1 _ h1 with ⟨rfl, _⟩ | ⟨hb1, h1⟩
  ·obtain ⟨rfl, _, _⟩ := new hx
   exact hcB
  ·exact h.ro b1 c1 d1 sz1 cs1 (old hb1 hx) h1
 ·intro b1 b2 c1 d1 d2 sz1 sz2 o1 o2 hx1 hx2 h1 h2 hr1 hr2
  rcases key b1 o1 h1 with ⟨rfl, rfl⟩ | ⟨hb1, h1⟩
  ·cases hr1
  ·rcases key b2 o2 h2 with ⟨rfl, rfl⟩ | ⟨hb2, h2⟩
   ·cases hr2
   ·exact h.inj b1 b2 c1 d1 d2 sz1 sz2 o1 o2 (old hb1 hx1) (old hb2 hx2) h1 h2 hr1 hr2
theorem HI {B : Nat} {w0 : World} {ρ : bL} {H : AH} (h : Rel P w0 B ρ H w) (x : Nat × Nat × Nat) : ∀ b y, ρ b = some y → ρ.upd H.size x b = some y :=
 bL.upd_le (by
  cases hn : ρ H.size with
  | none => rfl
  | some x => have := h.dom _ _ hn; omega)
def Got (P : Program) (w : World) (ρ : bL) (H : AH) (ty : Ty) (cs : List Value) (ρ' : bL) (H' : AH) : Prop :=
 ∃ x avs, Rel P w w.heap.size ρ' H' w ∧ (∀ b y, ρ b = some y → ρ' b = some y) ∧ fN H H' ∧ LRel P ρ' avs cs ∧ Abs H' ty x avs ∧ y9 ty x
theorem wI {fuel : Nat} {t : TypeId} {cs : List Value} {x : DataW Hd × List MemPlace} (h : DataW.trod enc P w 0 (fun _ => true) held fuel t cs = some x) : ∃ n, fuel = n + 1 := by
 cases fuel with
 | zero => simp [DataW.trod] at h
 | succ n => exact ⟨n, rfl⟩
theorem Ni {ty : Ty} {e : TypeId} {n : Nat} (ih : ∀ (cs : List Value) (x : DataW Hd × List MemPlace) (ρ : bL) (H : AH), Rel P w w.heap.size ρ H w → DataW.trod enc P w 0 (fun _ => true) held n e cs = some x → Ym P e x.1 → ∃ ρ' H', Got P w ρ H ty cs ρ' H')
 (a : Addr) : ∀ (m i : Nat) (ρ : bL) (H : AH), Rel P w w.heap.size ρ H w → (∀ j, i ≤ j → j < i + m → ∃ y, (w.cells? 0 (a.add (j * ty.w)) ty.w).bind (DataW.trod enc P w 0 (fun _ => true) held n e) = some y ∧ Ym P e y.1) →
  ∃ ρ' H' l row cc, Rel P w w.heap.size ρ' H' w ∧ (∀ b y, ρ b = some y → ρ' b = some y) ∧ fN H H' ∧ l.length = m ∧ ks (Abs H' ty) l row ∧ LRel P ρ' row cc ∧ (∀ k, k < m * ty.w → w.cell? (a.add (i * ty.w + k)) = cc[k]?) ∧ cc.length = m * ty.w ∧ ∀ x ∈ l, y9 ty x := by
 intro m
 induction m with
 | zero =>
  intro i ρ H hR _;exact ⟨ρ, H, [], [], [], hR, fun _ _ h => h, fN.refl H, rfl, .nil, LRel.nil, fun k hk => by omega, by simp, fun x hx => by cases hx⟩
 | succ m ihm =>
  intro i ρ H hR hel;obtain ⟨y, hy, hwy⟩ := hel i (bK _) (by omega);obtain ⟨cs, hcs, hy⟩ := aE.1 hy;obtain ⟨ρ1, H1, x, avs, hR1, hle1, hk1, hl1, ha1, hs1⟩ := ih cs y ρ H hR hy hwy;obtain ⟨ρ2, H2, l, row, cc, hR2, hle2, hk2, hlen, hrow, hl2, hcell, hcl, hs2⟩ := ihm (i + 1) ρ1 H1 hR1 (fun j h1 h2 => hel j (by omega) (by omega));obtain ⟨_, hcsl, hcsg⟩ := World.cells?_some hcs;refine ⟨ρ2, H2, x :: l, avs ++ row, cs ++ cc, hR2, fun b y h => hle2 b y (hle1 b y h), hk1.trans hk2, by simp [hlen], .cons (Abs.keep hk2 ty x avs ha1) hrow, (hl1.mono hle2).append hl2, ?_, ?_, ?_⟩
  ·intro k hk
   have hmul : (m + 1) * ty.w = ty.w + m * ty.w := by rw [Nat.add_mul]; omega
   have hmul2 : (i + 1) * ty.w = i * ty.w + ty.w := by rw [Nat.add_mul]; omega
   by_cases hkw : k < ty.w
   ·rw [List.getElem?_append_left (by omega), ← hcsg k hkw]
    congr 1
    unfold Addr.add
    repeat' split
    all_goals first | rfl | omega | (simp; done) | (simp; omega)
   ·rw [List.getElem?_append_right (by omega), hcsl, ← hcell (k - ty.w) (by omega), hmul2]
    congr 2
    omega
  ·rw [uh, hcsl, hcl, Nat.add_mul]; omega
  ·intro z hz
   rcases List.mem_cons.1 hz with rfl | hz
   ·exact hs1
   ·exact hs2 z hz
theorem U0 : ∀ (ty : Ty),
 (∀ (t : TypeId), (o8 P ty).1 t = true → ∀ (fuel : Nat) (cs : List Value) (x : DataW Hd × List MemPlace) (ρ : bL) (H : AH), Rel P w w.heap.size ρ H w → DataW.trod enc P w 0 (fun _ => true) held fuel t cs = some x → Ym P t x.1 → ∃ ρ' H', Got P w ρ H ty cs ρ' H') ∧
 (∀ (fs : List Field) (off : Nat), (o8 P ty).2 fs off = true → ∀ (fuel : Nat) (cs : List Value) (ρ : bL) (H : AH), Rel P w w.heap.size ρ H w → cs.length = off + ty.w →
  (∀ f ∈ fs, ∃ y, DataW.trod enc P w 0 (fun _ => true) held fuel f.type ((cs.drop f.offset).take (P.cellsOf f.type)) = some y ∧ Ym P f.type y.1) → ∃ ρ' H', Got P w ρ H ty (cs.drop off) ρ' H') := by
 intro ty
 induction ty with
 | int k =>
  refine ⟨?_, fun fs off h => by cases h⟩;intro t ht fuel cs x ρ H hR h hwx;obtain ⟨n, rfl⟩ := wI h;simp only [o8] at ht
  split at ht
  ·rename_i k' hu
   simp only [Bool.and_eq_true, beq_iff_eq] at ht;obtain ⟨rfl, _⟩ := ht;obtain ⟨n, rfl, _, hw⟩ := DataW.trod_int hu h;exact ⟨ρ, H, n, [.int k' n], hR, fun _ _ h => h, fN.refl H, LRel.of_all rfl, ⟨rfl, hw⟩, trivial⟩
  ·cases ht
 | bool =>
  refine ⟨?_, fun fs off h => by cases h⟩;intro t ht fuel cs x ρ H hR h hwx;obtain ⟨n, rfl⟩ := wI h;simp only [o8] at ht
  split at ht
  ·rename_i hu
   obtain ⟨b, rfl, _⟩ := DataW.trod_bool hu h;exact ⟨ρ, H, b, [.bool b], hR, fun _ _ h => h, fN.refl H, LRel.of_all rfl, rfl, trivial⟩
  ·cases ht
 | unit =>
  refine ⟨fun t h => by (cases h), ?_⟩;intro fs off hfs fuel cs ρ H hR hl h;refine ⟨ρ, H, (), [], hR, fun _ _ h => h, fN.refl H, ?_, rfl, trivial⟩;have : cs.drop off = [] := List.drop_eq_nil_of_le (by simp [Ty.w] at hl; omega);rw [this]; exact LRel.nil
 | slice ty ih =>
  refine ⟨?_, fun fs off h => by cases h⟩;intro t ht fuel cs x ρ H hR h hwx;simp only [o8] at ht
  split at ht
  ·rename_i e hu
   simp only [Bool.and_eq_true, beq_iff_eq, decide_eq_true_eq] at ht;obtain ⟨⟨⟨ht, he⟩, hw, hby⟩, _⟩ := ht
   rcases DataW.trod_slice hu h with ⟨rfl, _⟩ | ⟨a, len, cap, elems, rest, n, rfl, rfl, hx, _, hlc, hcm, hlen, hel, hsp, _⟩
   ·exact ⟨ρ, H, [], [.slice none 0 0], hR, fun _ _ h => h, fN.refl H, LRel.of_all rfl, .inl ⟨rfl, rfl⟩, Nat.zero_le _, fun x hx => by cases hx⟩
   ·have hwt : DataW.weights P t x.1 = (elems.length + rest.length) * P.bytesOf e :: (DataW.weightsAll P e (elems.map (·.1)) ++ DataW.weightsAll P e (rest.map (·.1))) := by
     rw [hx];unfold DataW.weights;rw [hu];simp
    have hreach : len ≤ reachBytes := by
     have h1 := hwx _ (by rw [hwt]; exact List.mem_cons_self)
     have h2 : len + rest.length ≤ (elems.length + rest.length) * P.bytesOf e := by
      rw [hlen]
      exact Nat.le_mul_of_pos_right _ hby
     omega
    have hwe : ∀ (y : DataW Hd × List MemPlace), (y ∈ elems ∨ y ∈ rest) → Ym P e y.1 := by
     intro y hy n hn;refine hwx n ?_;rw [hwt, List.mem_cons, List.mem_append]
     rcases hy with hy | hy
     ·exact .inr (.inl (qA (List.mem_map.2 ⟨y, hy, rfl⟩) hn))
     ·exact .inr (.inr (qA (List.mem_map.2 ⟨y, hy, rfl⟩) hn))
    rw [he] at hel hsp
    by_cases hc0 : cap = 0
    ·subst hc0
     obtain rfl : len = 0 := by omega
     exact ⟨ρ, H, [], [.slice (some ⟨0, 0, none⟩) 0 0], hR, fun _ _ h => h, fN.refl H, LRel.cons .empty LRel.nil, .inr (.inl ⟨rfl, 0, rfl⟩), Nat.zero_le _, fun x hx => by cases hx⟩
    ·have all : ∀ j, 0 ≤ j → j < 0 + cap → ∃ y, (w.cells? 0 (a.add (j * ty.w)) ty.w).bind (DataW.trod enc P w 0 (fun _ => true) held n e) = some y ∧ Ym P e y.1 := by
      intro j _ hj
      by_cases hjl : j < len
      ·rw [hel j hjl]
       exact ⟨elems[j]'(by omega), cM (by omega), hwe _ (.inl (List.getElem_mem _))⟩
      ·obtain ⟨hr1, hr2⟩ := hsp rfl
       have := hr2 (j - len) (by omega);rw [show len + (j - len) = j from by omega] at this;rw [this];exact ⟨rest[j - len]'(by omega), cM (by omega), hwe _ (.inr (List.getElem_mem _))⟩
     -- all cells of its dt are there
     obtain ⟨_, _, _, _, cca, _, _, _, _, _, _, hca, hcal, _⟩ := Ni (fun cs x ρ H => ih.1 e ht n cs x ρ H) a cap 0 ρ H hR all;obtain ⟨ρ1, H1, l, row, cc, hR1, hle1, hk1, hll, hrow, hl1, hcell, hcl, hsm⟩ := Ni (fun cs x ρ H => ih.1 e ht n cs x ρ H) a len 0 ρ H hR (fun j h1 h2 => all j h1 (by omega));have hpos : 0 < cap * ty.w := Nat.mul_pos (by omega) hw;have h0 := hca 0 hpos;have hsome : ∃ v, cca[0]? = some v := ⟨cca[0]'(by omega), cM (by omega)⟩;obtain ⟨v0, hv0⟩ := hsome;rw [hv0] at h0
     have hadd0 : a.add (0 * ty.w + 0) = a := by simp [Addr.add]
     rw [hadd0] at h0;unfold World.cell? at h0
     split at h0
     ·rename_i c el fz hblk
      split at h0
      ·cases h0
      ·rename_i hspot
       obtain ⟨ab, ao, as'⟩ := a
       have : as' = none := by cases as' with | none => rfl | some _ => simp at hspot
       subst this
       have cellsAt : ∀ k, k < cap * ty.w → c[ao + k]? = cca[k]? := by
        intro k hk;have := hca k hk;rw [show 0 * ty.w + k = k from by omega, Addr.add_lit] at this;unfold World.cell? at this;simp only [hblk, Option.isSome_none] at this
        simpa using this
       have hfit : ao + cap * ty.w ≤ c.size := by
        have := cellsAt (cap * ty.w - 1) (by omega);rw [cM (by omega)] at this;have := (Array.getElem?_eq_some_iff.1 this).1;omega
       have hsub : len * ty.w ≤ cap * ty.w := Nat.mul_le_mul_right _ hlc
       have hrl : row.length = len * ty.w := by rw [hl1.1, hcl]
       have hccs : (c.toList.drop ao).take row.length = cc := by
        apply List.ext_getElem?;intro k;rw [hrl, List.getElem?_take]
        by_cases hk : k < len * ty.w
        ·rw [if_pos hk, List.getElem?_drop]
         have h1 := hcell k hk;rw [show 0 * ty.w + k = k from by omega, Addr.add_lit] at h1;unfold World.cell? at h1;simp only [hblk, Option.isSome_none] at h1;rw [← h1];simp
        ·rw [if_neg hk, List.getElem?_eq_none (by omega)]
       have hblk' : w.heap[ab]? = some (.cells c el fz) := hblk;have hab : ab < w.heap.size := (Array.getElem?_eq_some_iff.1 hblk').1;have hp := hR1.pushRo (row := row) (c := ab) (d := ao) (sz := c.size) hab hab ⟨c, el, fz, hblk', rfl, by omega, (fun h => by cases h), by rw [hccs]; exact hl1⟩;have hkp := fN.push H1 (.cells true row);refine ⟨_, _, l, [.slice (some ⟨H1.size, 0, none⟩) l.length ty.w], hp, fun b y h => HI hR1 _ b y (hle1 b y h), hk1.trans hkp, LRel.cons ?_ LRel.nil, .inr (.inr ⟨H1.size, row, AH.get_push_new _ _, rfl, hrow.mono (Abs.keep hkp ty), by omega⟩), by rw [hll]; exact hreach, hsm⟩;rw [hll];have := VRel.slice (P := P) (ρ := ρ1.upd H1.size (ab, ao, c.size)) (b := H1.size) (o := 0) (n := len) (e := ty.w) (c := ab) (d := ao) (sz := c.size) (k := cap) (bL.upd_same ..) (by omega) hlc hw
       simpa using this
     ·cases h0
  ·cases ht
 | pair a b iha ihb =>
  have fields : ∀ (fs : List Field) (off : Nat), (o8 P (.pair a b)).2 fs off = true → ∀ (fuel : Nat) (cs : List Value) (ρ : bL) (H : AH), Rel P w w.heap.size ρ H w → cs.length = off + (a.w + b.w) →
   (∀ f ∈ fs, ∃ y, DataW.trod enc P w 0 (fun _ => true) held fuel f.type ((cs.drop f.offset).take (P.cellsOf f.type)) = some y ∧ Ym P f.type y.1) → ∃ ρ' H', Got P w ρ H (.pair a b) (cs.drop off) ρ' H' := by
   intro fs off hfs fuel cs ρ H hR hl h;simp only [o8] at hfs
   cases fs with
   | nil => cases hfs
   | cons f fs =>
    simp only [Bool.and_eq_true, beq_iff_eq] at hfs;obtain ⟨⟨⟨h1, h2⟩, h3⟩, h4⟩ := hfs;obtain ⟨y, hy, hwy⟩ := h f (by simp);rw [h1, h3] at hy;obtain ⟨ρ1, H1, x1, a1, hR1, hle1, hk1, hl1, ha1, hs1⟩ := iha.1 f.type h2 fuel _ y ρ H hR hy hwy;obtain ⟨ρ2, H2, x2, a2, hR2, hle2, hk2, hl2, ha2, hs2⟩ := ihb.2 fs (off + a.w) h4 fuel cs ρ1 H1 hR1 (by omega) (fun g hg => h g (by simp [hg]));refine ⟨ρ2, H2, (x1, x2), a1 ++ a2, hR2, fun b y h => hle2 b y (hle1 b y h), hk1.trans hk2, ?_, ⟨a1, a2, rfl, Abs.keep hk2 a x1 a1 ha1, ha2⟩, hs1, hs2⟩
    have e : cs.drop off = (cs.drop off).take a.w ++ cs.drop (off + a.w) := by
     rw [← List.drop_drop];exact (List.take_append_drop a.w (cs.drop off)).symm
    rw [e];exact (hl1.mono hle2).append hl2
  refine ⟨?_, fields⟩;intro t ht fuel cs x ρ H hR h hwx;obtain ⟨n, rfl⟩ := wI h;have ht' := ht;simp only [o8] at ht
  split at ht
  ·rename_i fs hu
   simp only [Bool.and_eq_true, beq_iff_eq] at ht;obtain ⟨xs, n', _, hxe, hlen, hxl, hxs⟩ := DataW.trod_struct hu h
   have := fields fs.toList 0 ht.2 n' cs ρ H hR (by rw [hlen, ht.1]; simp) (fun f hf => by
    obtain ⟨i, hi, rfl⟩ := List.mem_iff_getElem.1 hf;have := hxs i fs.toList[i] (by simp);rw [this]
    have hix : i < xs.length := by rw [hxl]; simpa using hi
    refine ⟨xs[i]'hix, cM _, fun n hn => hwx n ?_⟩;rw [hxe];unfold DataW.weights;rw [hu]
    exact yy (i := i) (by rw [Au, cM hi]; rfl) (by rw [Au, cM hix]; rfl) hn)
   simpa using this
  ·cases ht
end
def valOf : Ty → List Value → Value
 | .pair _ _, cs => .agg cs.toArray
 | .unit, cs => .agg cs.toArray
 | _, cs => cs.headD undef
abbrev QU : List Ty → Type
 | [] => Unit
 | t :: ts => t.I × QU ts
def qC (H : AH) : (ts : List Ty) → QU ts → List Value → Prop
 | [], _, vs => vs = []
 | t :: ts, x, vs => ∃ cs rest, vs = valOf t cs :: rest ∧ Abs H t x.1 cs ∧ qC H ts x.2 rest
theorem qC.keep {H H' : AH} (k : fN H H') : ∀ (ts : List Ty) (x : QU ts) (vs : List Value), qC H ts x vs → qC H' ts x vs := by
 intro ts
 induction ts with
 | nil => intro x vs h; exact h
 | cons t ts ih =>
  intro x vs h;obtain ⟨cs, rest, e, h1, h2⟩ := h;exact ⟨cs, rest, e, Abs.keep k t _ _ h1, ih _ _ h2⟩
def vn : (ts : List Ty) → QU ts → Prop
 | [], _ => True
 | t :: ts, x => y9 t x.1 ∧ vn ts x.2
def qL (P : Program) : List Ty → List TypeId → Bool
 | [], [] => true
 | ty :: tys, t :: ts => (o8 P ty).1 t && P.readableRec t && decide (t < P.types.size) && qL P tys ts
 | _, _ => false
section
variable {Hd : Type} {enc : TypeId × Value → Hd} {P : Program} {w : World} {held : Bool}
theorem VN {ty : Ty} {t : TypeId} (ht : (o8 P ty).1 t = true) {v : Value} {d : DataW Hd} {ps : List MemPlace} {r : Reach} {b0 : Nat} (hval : Value.okWide P w r b0 t v) (h : DataW.Trod enc P w 0 (fun _ => true) held t v d ps) (hwd : Ym P t d)
 {ρ : bL} {H : AH} (hR : Rel P w w.heap.size ρ H w) : ∃ ρ' H' x avs, Rel P w w.heap.size ρ' H' w ∧ (∀ b y, ρ b = some y → ρ' b = some y) ∧ fN H H' ∧ VRel P ρ' (valOf ty avs) v ∧ Abs H' ty x avs ∧ y9 ty x := by
 obtain ⟨fuel, h⟩ := h;obtain ⟨ρ', H', x, avs, h1, h2, h3, h4, h5, h6⟩ := (U0 (enc := enc) (P := P) (w := w) (held := held) ty).1 t ht fuel _ _ ρ H hR h hwd;refine ⟨ρ', H', x, avs, h1, h2, h3, ?_, h5, h6⟩;have hlen := Abs.length ty x avs h5
 have one : ∀ (hw : ty.w = 1) (hva : ∀ cs, v ≠ .agg cs), VRel P ρ' (avs.headD undef) v := by
  intro hw hva
  have hc : v.cells.toList = [v] := by
   cases v <;> first | rfl | exact absurd rfl (hva _)
  rw [hc] at h4
  match avs, hlen with
  | [a], _ => exact h4.2 0 a v rfl rfl
  | [], hl => rw [hw] at hl; cases hl
  | a :: b :: l, hl => rw [hw] at hl; simp at hl
 cases ty with
 | int k =>
  refine one rfl (fun cs e => ?_);subst e;simp only [o8] at ht
  split at ht
  ·rename_i hu
   unfold Value.okWide at hval;rw [hu] at hval;unfold Cell.okWide at hval;rw [hu] at hval;unfold Cell.ok at hval;rw [hu] at hval;exact hval
  ·cases ht
 | bool =>
  refine one rfl (fun cs e => ?_);subst e;simp only [o8] at ht
  split at ht
  ·rename_i hu
   unfold Value.okWide at hval;rw [hu] at hval;unfold Cell.okWide at hval;rw [hu] at hval;unfold Cell.ok at hval;rw [hu] at hval;exact hval
  ·cases ht
 | slice e =>
  refine one rfl (fun cs e => ?_);subst e;simp only [o8] at ht
  split at ht
  ·rename_i hu
   unfold Value.okWide at hval;rw [hu] at hval;unfold Cell.okWide at hval;rw [hu] at hval;unfold Cell.ok at hval;rw [hu] at hval;exact hval
  ·cases ht
 | unit => simp only [o8] at ht; cases ht
 | pair a b =>
  simp only [o8] at ht
  split at ht
  ·rename_i fs hu
   unfold Value.okWide at hval;rw [hu] at hval;obtain ⟨cs, rfl, _⟩ := hval;have h4 : LRel P ρ' avs cs.toList := h4;exact .agg (by simpa using h4.1) (fun i x y hx hy => h4.2 i x y (by simpa using hx) (by simpa using hy))
  ·cases ht
theorem Ra : ∀ (tys : List Ty) (ts : List TypeId) (vs : List Value) (ds : List (DataW Hd)) (ps : List MemPlace), qL P tys ts = true → (∀ (j : Nat) t v, ts[j]? = some t → vs[j]? = some v → ∃ r b0, Value.okWide P w r b0 t v) →
 DataW.TrodAll enc P w 0 (fun _ => true) held ts vs ds ps → (∀ n ∈ DataW.weightsEach P ts ds, n ≤ reachBytes) → ∀ (ρ : bL) (H : AH), Rel P w w.heap.size ρ H w →
 ∃ ρ' H' x avs, Rel P w w.heap.size ρ' H' w ∧ (∀ b y, ρ b = some y → ρ' b = some y) ∧ fN H H' ∧ LRel P ρ' avs vs ∧ qC H' tys x avs ∧ vn tys x := by
 intro tys
 induction tys with
 | nil =>
  intro ts vs ds ps hc hval h hwd ρ H hR
  cases ts with
  | cons t ts => cases hc
  | nil =>
   obtain ⟨rfl, _, _⟩ := trodAll_nil h;exact ⟨ρ, H, (), [], hR, fun _ _ h => h, fN.refl H, LRel.nil, rfl, trivial⟩
 | cons ty tys ih =>
  intro ts vs ds ps hc hval h hwd ρ H hR
  cases ts with
  | nil => cases hc
  | cons t ts =>
   simp only [qL, Bool.and_eq_true] at hc;obtain ⟨⟨⟨hc1, _⟩, _⟩, hc2⟩ := hc;obtain ⟨v, vs', d, ds', p, q, rfl, rfl, rfl, hd, hrest⟩ := trodAll_cons h;obtain ⟨r, b0, hv0⟩ := hval 0 t v rfl rfl;obtain ⟨ρ1, H1, x1, a1, hR1, hle1, hk1, hv1, ha1, hs1⟩ := VN hc1 hv0 hd (fun n hn => hwd n (by rw [DataW.weightsEach]; exact List.mem_append_left _ hn)) hR;obtain ⟨ρ2, H2, x2, a2, hR2, hle2, hk2, hl2, ha2, hs2⟩ := ih ts vs' ds' q hc2 (fun j t v h1 h2 => hval (j + 1) t v (by simpa using h1) (by simpa using h2)) hrest (fun n hn => hwd n (by rw [DataW.weightsEach]; exact List.mem_append_right _ hn)) ρ1 H1 hR1;exact ⟨ρ2, H2, (x1, x2), valOf ty a1 :: a2, hR2, fun b y h => hle2 b y (hle1 b y h), hk1.trans hk2, LRel.cons (hv1.mono hle2) hl2, ⟨a1, a2, rfl, Abs.keep hk2 ty x1 a1 ha1, ha2⟩, hs1, hs2⟩
theorem NS (hl : laidOutB P = true) {W' : World} (hb : Below w.heap.size w W') : ∀ (tys : List Ty) (ts : List TypeId) (vs : List Value) (ds : List (DataW Hd)) (ps : List MemPlace), qL P tys ts = true → (∀ x ∈ ps, x.block < w.heap.size) →
 DataW.TrodAll enc P w 0 (fun _ => true) true ts vs ds ps → DataW.TrodAll enc P W' 0 (fun b => decide (b < w.heap.size)) true ts vs ds ps := by
 intro tys
 induction tys with
 | nil =>
  intro ts vs ds ps hc hlt h
  cases ts with
  | cons t ts => cases hc
  | nil =>
   obtain ⟨rfl, rfl, rfl⟩ := trodAll_nil h;exact trodAll_mk0
 | cons ty tys ih =>
  intro ts vs ds ps hc hlt h
  cases ts with
  | nil => cases hc
  | cons t ts =>
   simp only [qL, Bool.and_eq_true, decide_eq_true_eq] at hc;obtain ⟨⟨⟨_, hc1⟩, hc3⟩, hc2⟩ := hc;obtain ⟨v, vs', d, ds', p, q, rfl, rfl, rfl, hd, hrest⟩ := trodAll_cons h;exact ⟨p, q, Below.trod hl hc1 hc3 hd hb (fun x hx => hlt x (by simp [hx])), ih ts vs' ds' q hc2 (fun x hx => hlt x (by simp [hx])) hrest, rfl⟩
theorem law_post (hm : P.follows .mixedOrders = true) (hl : laidOutB P = true) {G : List Nat} {f : Nat} {fn : Func} {s : ChangeSpec} {tys : List Ty} (hc : qL P tys fn.params.toList = true)
 {tb : TypeId} (hres : fn.resultTypes = #[tb]) (hb : P.underlying tb = some .bool) (hvars : s.vars = [])
 {args : Array Value} {ds gs : List (DataW Hd)} {before : List MemPlace} (hval : ∀ (j : Nat) t v, fn.params[j]? = some t → args[j]? = some v → ∃ r b0, Value.okWide P w r b0 t v)
 (hW : DataW.Whole enc P fn.params.toList s.vars false w args.toList ds gs before) (hspec : s.fn Hd (ds ++ gs) = { results := [.lit (.bool true)], args := ds })
 {ρ0 : bL} {H0 : AH} (hR : Rel P w w.heap.size ρ0 H0 w) (hG : GlobRel ρ0 G)
 (hwt : (DataW.weightsEach P fn.params.toList ds).all (· ≤ reachBytes) = true)
 (run : ∀ (x : QU tys) (avs : List Value) (H : AH), fN H0 H → qC H tys x avs → vn tys x → ∃ H', aF P G f avs H = some (.bool true, H')) :
 Calls P f args w fun e w' => ∃ v, e = .returned v ∧ s.post enc P fn false true false false w args v w' := by
 have hW' := hW;obtain ⟨p, q, hA, hV, rfl, hfz, hnd⟩ := hW;rw [hvars] at hV;obtain ⟨rfl, rfl⟩ := trodVars_none hV;obtain ⟨ρ1, H1, x, avs, hR1, hle1, hk1, hl1, ha1, hs1⟩ := Ra tys fn.params.toList args.toList ds p hc (fun j t v h1 h2 => hval j t v (by simpa using h1) (by simpa using h2)) hA (fun n hn => by simpa using List.all_eq_true.1 hwt n hn) ρ0 H0 hR;obtain ⟨H', hrun⟩ := run x avs H1 hk1 ha1 hs1;have hG1 : GlobRel ρ1 G := fun g hg => let ⟨sz, h⟩ := hG g hg; ⟨sz, hle1 _ _ h⟩;have hcall := ((ZB (P := P) (G := G) hm).1 f avs H1 _ H' hrun).2 w w.heap.size ρ1 w args.toList hR1 hG1 hl1;rw [show args.toList.toArray = args from by simp] at hcall;refine hcall.mono fun e w' ⟨v', ρ', he, hv, hext, hR'⟩ => ?_
 have hv : v' = .bool true := by
  cases hv with
  | lit h => rfl
 subst hv;subst he
 have hlt : ∀ y ∈ p, y.block < w.heap.size := fun y hy => by
  have := hW'.lt y (by simp [hy])
  simpa using this
 refine ⟨_, rfl, ds, [], p ++ [], [], p, [], hW', ?_, ?_, ?_, ?_, fun h => by cases h⟩
 ·rw [hspec, hres]
  exact ⟨[], [], shut_bool hb true, trodAll_mk0, rfl⟩
 ·rw [hspec]
  exact NS hl hR'.below tys _ _ _ _ hc hlt hA
 ·rw [hvars, hspec]
  rfl
 ·exact hR'.below.frame _
end
theorem rel_none (P : Program) (w : World) : Rel P w w.heap.size (fun _ => none) ⟨[]⟩ w where
 base := bK _
 below := Below.refl _ _
 dom := fun b x h => by cases h
 blk := fun b c d sz h => by cases h
 obj := fun b c d sz o h => by cases h
 own := fun b c d sz o h => by cases h
 ro := fun b c d sz cs h => by cases h
 inj := fun b b' c d d' sz sz' o o' h => by cases h
end Go.Proofs.YtflbeghglllknaaGreatDoor.Gst
namespace Go.Proofs.YtflbeghglllknaaGreatDoor.Gst
open Go Go.RowKit
set_option maxRecDepth 100000
set_option linter.unusedVariables false
set_option maxHeartbeats 1000000
abbrev NT : Nat := 65185151242703554760590262029100101153646988597309960020356494379340201592426774597868716015
abbrev aa0 : Nat := 5986310706507378352962293074805895248510699689653229
abbrev aa1 : Nat := 5986310706507378352962293074805895248510699695805413
abbrev aa2 : Nat := 5986310706507378352962293074805895248510699696028671
abbrev DE : Nat := 1237940039285380274899122808
abbrev NU : Nat := 87112285931760246646623899502532662132671
abbrev Ri : Nat := 356811923176489970264571492362373784095686572
abbrev aa3 : Nat := 5986310706507378352962293074805895248510699695936493
abbrev VP : Nat := 2923003274661805836407369665432566039311865085887
abbrev IE : Nat := 1237940039285380274899123320
abbrev zk : Nat := 309485009821345068724780233
abbrev XK : Nat := 65185151242703554760590262029100101153646988597309960020356494379340201592426774597868715788
abbrev KZ : Nat := 664613997892457936451903530140172271
abbrev Gg : Nat := 1237940039285380274899123832
abbrev Rf : Nat := 356811923176489970264571492362373784095686540
abbrev Rg : Nat := 356811923176489970264571492362373784095686412
abbrev K4 : Nat := 40564819207303340847894502572015
abbrev zl : Nat := 4503599627243407
abbrev zm : Nat := 1125899906842566
abbrev K5 : Nat := 309485009821345068724780751
abbrev wM : Nat := 4398046511091
abbrev zn : Nat := 4397241204723
abbrev Gi : Nat := 72057594037927887
abbrev Gj : Nat := 1125899906842598
abbrev K6 : Nat := 576460752303423436
abbrev zo : Nat := 1073692589
abbrev zp : Nat := 1073741708
abbrev Rh : Nat := 18889465931478580850727
abbrev Gk : Nat := 4398046511090
abbrev K7 : Nat := 4503599627341807
abbrev K8 : Nat := 2251799813685196
noncomputable abbrev PP : Program := Tryz.prog
def GG : List Nat := [0]
noncomputable abbrev FF : bE := aF PP GG
noncomputable abbrev CQ (c : Code) (kn : KK) (kx : KX) (kr : KK) : KK := CK PP GG FF c kn kx kr
noncomputable abbrev NF (c : Code) (kx : KX) (kr : KK) : KK := CL PP GG FF c kx kr
def i4 : Nat := 7
def sD : Nat := 9
def eK : Nat := 10
def pU : Nat := 11
def kg : Nat := 12
def mu : Nat := 19
def fU : Nat := 20
def bS : Nat := 21
def dw : Nat := 22
def fI : Nat := 23
def iw : Nat := 24
def fK : Nat := 27
def i7 : Nat := 28
def eS : Nat := 29
def dW : Nat := 30
def mZ : Nat := 31
def pV : Nat := 32
def lV : Nat := 33
def lR : Nat := 34
def jI : Nat := 41
def jY : Nat := 42
def vV : Nat := 43
def vX : Nat := 44
def vU : Nat := 45
def ez : Nat := 46
def lY : Nat := 47
def bi : Nat := 48
def sC : Nat := 49
def od : Nat := 50
def jV : Nat := 51
def fJ : Nat := 52
def cU : Nat := 53
def cX : Nat := 54
def bP : Nat := 55
def i5 : Nat := 56
def pW : Nat := 60
def jb : Nat := 61
def fi : Nat := 62
def j1 : Nat := 63
def mY : Nat := 64
def vW : Nat := 65
def pT : Nat := 66
def p0 : Nat := 67
def sE : Nat := 68
def sA : Nat := 69
def lU : Nat := 70
def lW : Nat := 71
def m5 : Nat := 72
def m0 : Nat := 73
def jW : Nat := 74
def dT : Nat := 75
def gK : Nat := 76
def ge : Nat := 77
def iv : Nat := 78
def cr : Nat := 84
def iu : Nat := 86
def g8 : Nat := 87
def i9 : Nat := 88
def lQ : Nat := 89
def eg : Nat := 90
def fp : Nat := 91
def eu : Nat := 92
def bC : Nat := 93
def AI : Nat := 94
def gL : Nat := 95
def dV : Nat := 96
def kz : Nat := 97
def ef : Nat := 98
def bU : Nat := 99
def iq : Nat := 100
def gu : Nat := 101
def ip : Nat := 102
def jM : Nat := 103
def lX : Nat := 104
def fm : Nat := 105
def ir : Nat := 106
def i8 : Nat := 107
def Yd : Nat := 108
def TJ : Nat := 109
def kJ : Nat := 110
def oP : Nat := 111
def fG : Nat := 112
def dp : Nat := 113
def fh : Nat := 114
def TK : Nat := 117
def i6 : Nat := 118
def fj : Nat := 119
def bB : Nat := 120
def pX : Nat := 121
def sF : Nat := 122
def us : Nat := 123
def ur : Nat := 124
def TH : Nat := 125
def fW : Nat := 126
def sG : Nat := 127
def cm : Nat := 128
def m6 : Nat := 129
def dB : Nat := 130
def eb : Nat := 131
def ig : Nat := 132
def jX : Nat := 133
def AG : Nat := 134
def gP : Nat := 135
def og : Nat := 137
def gv : Nat := 138
def iS : Nat := 139
def jG : Nat := 140
def gb : Nat := 141
def dj : Nat := 142
def cV : Nat := 143
def cJ : Nat := 144
def TI : Nat := 145
def jL : Nat := 146
def kA : Nat := 147
def dU : Nat := 148
def ee : Nat := 149
def ed : Nat := 150
def io : Nat := 151
def ky : Nat := 152
def jJ : Nat := 153
def jK : Nat := 154
def ja : Nat := 155
def pS : Nat := 156
def mX : Nat := 157
def sH : Nat := 161
def pZ : Nat := 162
def pY : Nat := 171
def eC : Nat := 172
def mw : Nat := 173
def dL : Nat := 174
def lS : Nat := 175
def ln : Nat := 176
def lk : Nat := 177
def uo : Nat := 178
def bF : Nat := 179
def gJ : Nat := 180
def di : Nat := 181
def cW : Nat := 182
def bd : Nat := 183
def cg : Nat := 184
def bO : Nat := 185
def lT : Nat := 186
def p6 : Nat := 188
def sB : Nat := 189
def jc : Nat := 204
def fH : Nat := 205
def dE : Nat := 206
def cj : Nat := 207
def en : Nat := 208
def jZ : Nat := 209
def bo : Nat := 210
def aN : Nat := 211
def dq : Nat := 212
def oh : Nat := 214
def fq : Nat := 243
def ll : Nat := 244
def ep : Nat := 245
def j0 : Nat := 246
def ch : Nat := 247
def dP : Nat := 248
def eA : Nat := 249
def m7 : Nat := 250
def eL : Nat := 251
def gN : Nat := 267
def gM : Nat := 268
def nD : Nat := 269
def jF : Nat := 270
def jE : Nat := 271
def jN : Nat := 272
def dC : Nat := 273
def dv : Nat := 274
def cn : Nat := 275
def fg : Nat := 281
def gc : Nat := 282
def nC : Nat := 283
def g7 : Nat := 284
def lr : Nat := 285
def my : Nat := 286
def g9 : Nat := 287
def cz : Nat := 288
def ff : Nat := 289
def mv : Nat := 290
def uq : Nat := 291
def lq : Nat := 292
def lh : Nat := 293
def lj : Nat := 294
def fY : Nat := 295
def kB : Nat := 296
def gO : Nat := 297
def ga : Nat := 298
def jH : Nat := 299
def dK : Nat := 300
def i3 : Nat := 301
def lm : Nat := 302
def iE : Nat := 303
def lp : Nat := 304
def iF : Nat := 305
def nB : Nat := 306
section
variable (x0 x1 x2 x3 x4 x5 x6 x7 x8 x9 x12 x13 x14 x15 x16 : Value) (H : AH)
noncomputable def BW (p : List Nat) : Code := Code.sub (ce Tryz.f9) p
noncomputable def Ag : KK := fE PP (Tryz.f9).results.toList
noncomputable def XX : KK := CQ (BW [1, 1, 1, 1, 1]) Ag ca Ag
noncomputable def wV : OV := XX (ls [u, x1, x2, u, x4, x5, u, u, x8] 79) H
noncomputable def S8 : KK := CQ (BW [1, 1, 1, 1, 1, 1]) Ag ca Ag
noncomputable def XV : KK := jv K5 S8
noncomputable def wW : OV := S8 (ls [u, u, u, u, x4, x5, u, u, x8] 79) H
noncomputable def XY : KK := CQ (BW [1, 1, 1, 1, 1, 0, 1]) XV ca Ag
noncomputable def wX : OV := XY (ls [u, x1, x2, u, x4, x5, u, u, x8, x9] 78) H
noncomputable def Tc : KX := BX 0 XV ca
noncomputable def MG : KX := FV K5 Tc
noncomputable def S9 : KK := NF (BW [1, 1, 1, 1, 1, 0, 1, 4, 5]) MG Ag
noncomputable def XW : KK := jv zk S9
noncomputable def mr : OV := S9 (ls [u, x1, x2, u, x4, x5, u, u, x8, x9] 78) H
noncomputable def XZ : KK := CQ (BW [1, 1, 1, 1, 1, 0, 1, 4, 5, 1]) XW MG Ag
noncomputable def wY : OV := XZ (ls [u, x1, x2, u, x4, x5, u, u, x8, x9] 78) H
noncomputable def Ta : KK := CQ (BW [1, 1, 1, 1, 1, 0, 1, 4, 5, 1, 1]) XW MG Ag
noncomputable def ZL : KK := jv zk Ta
noncomputable def pQ : OV := Ta (ls [u, x1, x2, u, x4, x5, u, u, x8, x9] 78) H
noncomputable def YQ : KX := BX 1 ZL MG
noncomputable def rL : OV := Tc 0 (ls [u, u, u, u, x4, x5, u, u, x8] 79) H
theorem pH : az 309485009821345068724781007 Ag := rf
theorem WP : az 309485009821345068724780745 XX := rc pH aH pH
theorem EJ : az K5 S8 := rc pH aH pH
theorem WQ : az zk XY := rc (cd EJ) aH pH
theorem tY : ∀ i, az K5 (Tc i) := rb (cd EJ) aH
theorem yP : az zk S9 := rl (cx tY) pH
theorem WR : az zk XZ := rc (cd yP) (cx tY) pH
theorem MF : az zk Ta := rc (cd yP) (cx tY) pH
theorem Tb : ∀ i, az zk (YQ i) := rb (cd MF) (cx tY)
theorem Ao : wW x4 x5 x8 H =
 (aA 2 x8 H).bind fun b =>
 (cD 2 x4 b H).bind fun a =>
 (aA 2 x4 a).bind fun c => some (Value.tuple #[c, (vb true)], a) :=
 (by kernel_rfl)
theorem As : pQ x1 x2 x4 x5 x8 x9 H =
 (aq .other .add x9 (vi 1)).bind fun a =>
 mr x1 x2 x4 x5 x8 a H :=
 (by kernel_rfl)
theorem Aq : wY x1 x2 x4 x5 x8 x9 H =
 ld [.f 0] x2 H fun d =>
 (aq .other .quo x9 d).bind fun e =>
 ld [.f 1] x2 H fun g =>
 (aq .other .lss e g).bind fun a =>
 (gB a true (aA 2 x8 H)).bind fun i =>
 (gV a true x9).bind fun j =>
 (gV a true x9).bind fun k =>
 (gB a true (aq .other .add (vi 1) k)).bind fun l =>
 (gV a true x9).bind fun m =>
 (gB a true (aq .other .rem m (vi 2))).bind fun n =>
 (gB a true (aq .other .add (vi 2) n)).bind fun o =>
 (gE a true H (FF lR [i, j, l, o] H)).bind fun b =>
 (gB a true (mD .not b.1)).bind fun p =>
 (aX a p (vb false)).bind fun q =>
 ax q
 (gC [(0, 1), (1, 1)] [(.pointer none), (.pointer none)] [] fun s =>
 (cD 2 x4 s b.2).bind fun c =>
 (aA 2 x4 c).bind fun t => some (Value.tuple #[t, (vb false)], c))
 (pQ x1 x2 x4 x5 x8 x9 b.2) :=
 (pt rfl 0 MF (bt rfl (BW [1, 1, 1, 1, 1, 0, 1, 4, 5, 1, 0, 4]) 1 Tb (by kernel_rfl)))
theorem vQ : rL x4 x5 x8 H = wW x4 x5 x8 H :=
 (by kernel_rfl)
theorem pP : mr x1 x2 x4 x5 x8 x9 H =
 (aq .other .lss x9 x1).bind fun a =>
 ax a
 (wY x1 x2 x4 x5 x8 x9 H)
 (rL x4 x5 x8 H) :=
 PJ rfl yP (pt rfl 0 WR (by kernel_rfl))
theorem Ap : wX x1 x2 x4 x5 x8 x9 H =
 mr x1 x2 x4 x5 x8 x9 H :=
 (bt rfl (BW [1, 1, 1, 1, 1, 0, 1, 4]) 0 tY (li rfl (BW [1, 1, 1, 1, 1, 0, 1, 4, 5]) yP (by kernel_rfl)))
theorem An : wV x1 x2 x4 x5 x8 H =
 wX x1 x2 x4 x5 x8 (vi 0) H :=
 (pt rfl 0 EJ (pt rfl 0 WQ (by kernel_rfl)))
noncomputable def Tn : OV := bn PP GG FF (BW []) (ls [x0, x1] 86) H Ag ca Ag
theorem G8 {r : Value × AH} (h : (
 aZ (Value.cells x0).toList H fun c y =>
 aZ [(.pointer none), (.pointer none)] y fun k m =>
 (aA 5 c m).bind fun z =>
 (FF mZ [z] m).bind fun o =>
 (cD 5 c o.1 o.2).bind fun p =>
 (aA 5 c p).bind fun A =>
 (FF pV [A] p).bind fun a =>
 (af a.1 0).bind fun b =>
 (af a.1 1).bind fun B =>
 (aq .other .neq B (vi 0)).bind fun l =>
 (gV l false b).bind fun C =>
 (gB l false (aq .ptr .eql C (.pointer none))).bind fun D =>
 (aX l (vb true) D).bind fun d =>
 (gV d false b).bind fun E =>
 fT d false  [.n, .f 0] E a.2 fun G =>
 (gB d false (aq .ptr .eql G (.pointer none))).bind fun I =>
 (aX d (vb true) I).bind fun e =>
 (gV e false b).bind fun J =>
 fT e false  [.n, .f 1] J a.2 fun K =>
 (gB e false (aq .ptr .eql K (.pointer none))).bind fun L =>
 (aX e (vb true) L).bind fun g =>
 (gV g false b).bind fun M =>
 fT g false  [.n, .f 2] M a.2 fun N =>
 (gB g false (aq .ptr .eql N (.pointer none))).bind fun O =>
 (aX g (vb true) O).bind fun i =>
 (gV i false b).bind fun P =>
 fT i false  [.n, .f 3] P a.2 fun Q =>
 (gB i false (aq .ptr .eql Q (.pointer none))).bind fun R =>
 (aX i (vb true) R).bind fun j =>
 (gV j false b).bind fun S =>
 fT j false  [.n, .f 4] S a.2 fun T =>
 (gB j false (aq .ptr .eql T (.pointer none))).bind fun U =>
 (aX j (vb true) U).bind fun V =>
 ax V
 (gC [(0, 1), (1, 1)] [(.pointer none), (.pointer none)] [] fun W =>
 (cD 2 k W a.2).bind fun q =>
 (aA 2 k q).bind fun X => some (Value.tuple #[X, (vb false)], q))
 ((aA 5 c a.2).bind fun Y =>
 (FF lV [Y] a.2).bind fun s =>
 gC [(0, 1), (1, 1)] [(.pointer none), (.pointer none)] [(0, b), (1, s.1)] fun Z =>
 aZ [(.pointer none), (.pointer none)] s.2 fun w a0 =>
 (cD 2 w Z a0).bind fun a1 =>
 wV x1 c k (vb false) w a1)) = some r) : FF sD [x0, x1] H = some r :=
 fo (t := Tn x0 x1 H) Tryz.func9 (by kernel_rfl) (Eq.trans (pt rfl 4 WP (by kernel_rfl)) h)
theorem Hr {r : Value × AH} (h : (
 (cH (some .u64) x0).bind fun a =>
 (cH (some .u64) x1).bind fun b =>
 (aq .other .rem a b).bind fun c =>
 (cH (some .i64) c).bind fun d =>
 some (d, H)) = some r) : FF eK [x0, x1] H = some r :=
 fo Tryz.func10 (by kernel_rfl) h
noncomputable def rK (p : List Nat) : Code := Code.sub (ce Tryz.f12) p
noncomputable def pD : KK := fE PP (Tryz.f12).results.toList
noncomputable def RM : KK := CQ (rK [1, 1]) pD ca pD
noncomputable def uc : OV := RM (ls [u, u, u, u, x4, x5, x6, u, u, u, u, u, x12, x13, x14, x15] 36) H
noncomputable def RO : KK := CQ (rK [1, 1, 1]) pD ca pD
noncomputable def RK : KK := jv K7 RO
noncomputable def RP : KK := CQ (rK [1, 1, 0, 1]) RK ca pD
noncomputable def ud : OV := RP (ls [u, u, u, u, x4, x5, x6, u, u, u, u, u, x12, x13, x14, x15, x16] 35) H
noncomputable def Jb : KX := BX 0 RK ca
noncomputable def D9 : KX := FV K7 Jb
noncomputable def I9 : KK := NF (rK [1, 1, 0, 1, 4, 5]) D9 pD
noncomputable def RL : KK := jv zl I9
noncomputable def kT : OV := I9 (ls [u, u, u, u, x4, x5, x6, u, u, u, u, u, x12, x13, x14, x15, x16] 35) H
noncomputable def RR : KK := CQ (rK [1, 1, 0, 1, 4, 5, 1]) RL D9 pD
noncomputable def ue : OV := RR (ls [u, u, u, u, x4, x5, x6, u, u, u, u, u, x12, x13, x14, x15, x16] 35) H
noncomputable def Ja : KK := CQ (rK [1, 1, 0, 1, 4, 5, 1, 1]) RL D9 pD
noncomputable def YH : KK := jv zl Ja
noncomputable def uf : OV := Ja (ls [u, u, u, u, x4, x5, x6, u, u, u, u, u, x12, x13, x14, x15, x16] 35) H
noncomputable def Wl : KX := BX 1 YH D9
noncomputable def At : OV := Jb 0 (ls [u, u, u, u, x4, u, u, u, u, u, u, u, x12, x13, x14] 37) H
theorem mo : az 4503599627341823 pD := rf
theorem RN : az 4503599627308943 RM := rc mo aH mo
theorem zN : az K7 RO := rc mo aH mo
theorem RQ : az zl RP := rc (cd zN) aH mo
theorem pE : ∀ i, az K7 (Jb i) := rb (cd zN) aH
theorem tJ : az zl I9 := rl (cx pE) mo
theorem RS : az zl RR := rc (cd tJ) (cx pE) mo
theorem GJ : az zl Ja := rc (cd tJ) (cx pE) mo
theorem OH : ∀ i, az zl (Wl i) := rb (cd GJ) (cx pE)
theorem xH : uf x4 x5 x6 x12 x13 x14 x15 x16 H =
 (aq .other .add x16 (vi 1)).bind fun a =>
 kT x4 x5 x6 x12 x13 x14 x15 a H :=
 (by kernel_rfl)
theorem xG : ue x4 x5 x6 x12 x13 x14 x15 x16 H =
 (aA 3 x15 H).bind fun f =>
 (aA 2 x6 H).bind fun g =>
 (aq .other .add x4 x16).bind fun i =>
 (FF fU [f, g, i] H).bind fun a =>
 (af a.1 0).bind fun j =>
 (af a.1 1).bind fun k =>
 (af a.1 2).bind fun l =>
 aZ [(vi 0), (.slice none 0 0), (vi 0), (vw 0)] a.2 fun c m =>
 (cD 4 c j m).bind fun b =>
 (mD .not l).bind fun n =>
 ax n
 (gC [(0, 1), (1, 1), (2, 1), (3, 1)] [(vi 0), (.slice none 0 0), (vi 0), (vw 0)] [] fun o =>
 (cD 4 x12 o b).bind fun d =>
 (aA 4 x12 d).bind fun p => some (Value.tuple #[p, x4, (vb false)], d))
 (ax k
 ((aA 4 c b).bind fun q =>
 (aq .other .add x4 x16).bind fun s =>
 (aq .other .add s (vi 1)).bind fun t =>
 (cD 4 x12 q b).bind fun e =>
 (aA 4 x12 e).bind fun w => some (Value.tuple #[w, t, (vb true)], e))
 (uf x4 x5 x6 x12 x13 x14 x15 x16 b)) :=
 (pt rfl 0 GJ (bt rfl (rK [1, 1, 0, 1, 4, 5, 1, 0, 4]) 1 OH (by kernel_rfl)))
theorem xF : kT x4 x5 x6 x12 x13 x14 x15 x16 H =
 (aq .other .lss x16 x5).bind fun a =>
 ax a
 (ue x4 x5 x6 x12 x13 x14 x15 x16 H)
 (At x4 x12 x13 x14 H) :=
 PJ rfl tJ (pt rfl 0 RS (by kernel_rfl))
theorem xE : ud x4 x5 x6 x12 x13 x14 x15 x16 H =
 kT x4 x5 x6 x12 x13 x14 x15 x16 H :=
 (bt rfl (rK [1, 1, 0, 1, 4]) 0 pE (li rfl (rK [1, 1, 0, 1, 4, 5]) tJ (by kernel_rfl)))
theorem xD : uc x4 x5 x6 x12 x13 x14 x15 H =
 ud x4 x5 x6 x12 x13 x14 x15 (vi 0) H :=
 (pt rfl 0 zN (pt rfl 0 RQ (by kernel_rfl)))
noncomputable def PG : OV := bn PP GG FF (rK []) (ls [x0, x1, x2, x3, x4, x5] 46) H pD ca pD
theorem ET {r : Value × AH} (h : (
 aZ (Value.cells x0).toList H fun b e =>
 aZ (Value.cells x3).toList e fun f g =>
 aZ [(vi 0), (.slice none 0 0), (vi 0), (vw 0)] g fun i a =>
 (aA 2 b a).bind fun j =>
 (aA 4 f a).bind fun k =>
 (FF mu [j, x1, x2, k] a).bind fun c =>
 aZ [(.pointer none), (.pointer none), (.pointer none)] c.2 fun d l =>
 (cD 3 d c.1 l).bind fun m =>
 uc x4 x5 b i (vi 0) (vb false) d m) = some r) : FF kg [x0, x1, x2, x3, x4, x5] H = some r :=
 fo (t := PG x0 x1 x2 x3 x4 x5 H) Tryz.func12 (by kernel_rfl) (Eq.trans (pt rfl 1 RN (by kernel_rfl)) h)
noncomputable def RZ (p : List Nat) : Code := Code.sub (ce Tryz.f19) p
noncomputable def z7 : KK := fE PP (Tryz.f19).results.toList
noncomputable def R0 : KK := CQ (RZ [1, 1, 1]) z7 ca z7
noncomputable def ug : OV := R0 (ls [u, x1, u, u, x4, u, u, x7, x8, x9] 26) H
noncomputable def R4 : KK := CQ (RZ [1, 1, 1, 1]) z7 ca z7
noncomputable def oc : OV := R4 (ls [u, u, u, u, u, u, u, u, x8, x9] 26) H
theorem yG : az 68719476479 z7 := rf
theorem R3 : az 68719475821 R0 := rc yG aH yG
theorem R5 : az 68719475967 R4 := rc yG aH yG
theorem oO : oc x8 x9 H =
 (aA 3 x9 H).bind fun b =>
 (cD 3 x8 b H).bind fun a =>
 (aA 3 x8 a).bind fun c => some (c, a) :=
 (by kernel_rfl)
theorem oN : ug x1 x4 x7 x8 x9 H =
 ld [.f 0] x7 H fun c =>
 (aq .other .eql c (vi 3)).bind fun d =>
 ax d
 (ld [.f 0] x4 H fun e =>
 (aA 4 x7 H).bind fun g =>
 (FF vV [e, x1, g] H).bind fun a =>
 st 1 [.f 0] x9 a.1 a.2 fun i =>
 oc x8 x9 i)
 (ld [.f 0] x4 H fun j =>
 (aA 4 x7 H).bind fun k =>
 (FF vX [j, x1, k] H).bind fun b =>
 st 1 [.f 1] x9 b.1 b.2 fun l =>
 oc x8 x9 l) :=
 (pt rfl 0 R5 (by kernel_rfl))
noncomputable def PH : OV := bn PP GG FF (RZ []) (ls [x0, x1, x2, x3] 32) H z7 ca z7
theorem EU {r : Value × AH} (h : (
 aZ (Value.cells x0).toList H fun a i =>
 aZ (Value.cells x3).toList i fun c j =>
 aZ [(.pointer none), (.pointer none), (.pointer none)] j fun k d =>
 (aA 2 a d).bind fun l =>
 (FF jI [l, x1, x2] d).bind fun b =>
 ld [.f 1] a b.2 fun m =>
 (aA 4 c b.2).bind fun n =>
 (FF jY [m, x1, n] b.2).bind fun e =>
 gC [(0, 1), (1, 1), (2, 1)] [(.pointer none), (.pointer none), (.pointer none)] [(2, e.1)] fun o =>
 aZ [(.pointer none), (.pointer none), (.pointer none)] e.2 fun g p =>
 (cD 3 g o p).bind fun q =>
 ug x1 a c k g q) = some r) : FF mu [x0, x1, x2, x3] H = some r :=
 fo (t := PH x0 x1 x2 x3 H) Tryz.func19 (by kernel_rfl) (Eq.trans (pt rfl 2 R3 (by kernel_rfl)) h)
end
section
variable (x0 x1 x2 x3 x4 x5 x6 x7 x8 x9 x10 x11 x13 x93 x97 x112 x133 x151 x171 x186 x197 x242 x248 x272 x283 x297 : Value) (H : AH)
noncomputable def Mj (p : List Nat) : Code := Code.sub (ce Tryz.f20) p
noncomputable def z8 : KK := fE PP (Tryz.f20).results.toList
noncomputable def R6 : KK := CQ (Mj [1, 1, 1]) z8 ca z8
noncomputable def nu : OV := R6 (ls [u, u, x2, x3, x4, u, x6, x7, x8, x9, x10, x11] 62) H
noncomputable def Jo : KK := CQ (Mj [1, 1, 1, 1]) z8 ca z8
noncomputable def YI : KK := jv Rh Jo
noncomputable def gH : OV := Jo (ls [u, u, u, x3, x4, u, x6, x7, x8, x9, x10, x11] 62) H
noncomputable def WD : KX := BX 0 YI ca
theorem yH : az 18889465931478580854335 z8 := rf
theorem R7 : az 18889465931478580850723 R6 := rc yH aH yH
theorem GU : az Rh Jo := rc yH aH yH
theorem Pe : ∀ i, az Rh (WD i) := rb (cd GU) aH
theorem rq : gH x3 x4 x6 x7 x8 x9 x10 x11 H =
 (aA 4 x9 H).bind fun m =>
 (aq .bool .eql x10 x11).bind fun d =>
 (gB d true (aA 4 x9 H)).bind fun o =>
 fT d true  [.f 2] x3 H fun p =>
 (gV d true x11).bind fun q =>
 (gE d true H (FF od [p, q] H)).bind fun e =>
 bZ (aA 4 x9 e.2) (aA 4 x9 H) <|
 bZ (aA 4 x9 e.2) (aA 4 x9 H) <|
 (gE d true e.2 (FF sC [o, e.1] e.2)).bind fun c =>
 bZ (aA 4 x9 c.2) (aA 4 x9 H) <|
 (aX d c.1 (vb false)).bind fun a =>
 fT a true  [.f 0] x4 c.2 fun s =>
 fT a true  [.n, .f 0] s c.2 fun t =>
 (gE a true c.2 (FF jV [t] c.2)).bind fun b =>
 bZ (aA 4 x9 b.2) (aA 4 x9 H) <|
 EM a true  [.f 1] x4 fun g =>
 (gB a true (ar g b.2)).bind fun w =>
 bZ (ar g c.2) (ar g b.2) <|
 EM a true  [.n, .f 5] w fun i =>
 (gB a true (ar i b.2)).bind fun y =>
 bZ (ar i c.2) (ar i b.2) <|
 EM a true  [.n, .f 2] y fun j =>
 (gB a true (ar j b.2)).bind fun k =>
 bZ (ar j c.2) (ar j b.2) <|
 (BN (yv a) true (mh k some) (some undef)).bind fun z =>
 bZ (WU k) (WU k) <|
 (gB a true (aq .other .eql b.1 z)).bind fun A =>
 (aX a A (vb false)).bind fun B =>
 (cD 4 x6 m b.2).bind fun l =>
 bZ (ar g l) (ar g b.2) <|
 bZ (ar i l) (ar i b.2) <|
 bZ (ar j l) (ar j b.2) <|
 bZ (WU k) (WU k) <|
 (aA 4 x6 l).bind fun C => some (Value.tuple #[C, x11, B], l) :=
 (by kernel_rfl)
theorem kF : nu x2 x3 x4 x6 x7 x8 x9 x10 x11 H =
 ld [.f 0] x3 H fun j =>
 (aq .ptr .neq j (.pointer none)).bind fun k =>
 ax k
 (ld [.f 0] x3 H fun l =>
 (FF vU [l, x2] H).bind fun a =>
 (af a.1 0).bind fun m =>
 (af a.1 1).bind fun n =>
 (cD 4 x9 m a.2).bind fun c =>
 ld [.f 2] x3 c fun o =>
 (FF ez [o, x2] c).bind fun d =>
 gH x3 x4 x6 x7 x8 x9 n d.1 d.2)
 (ld [.f 1] x3 H fun p =>
 (aq .ptr .neq p (.pointer none)).bind fun q =>
 ax q
 (ld [.f 1] x3 H fun s =>
 (FF lY [s, x2] H).bind fun b =>
 (af b.1 0).bind fun t =>
 (af b.1 1).bind fun w =>
 (cD 4 x9 t b.2).bind fun e =>
 ld [.f 2] x3 e fun y =>
 (FF bi [y, x2] e).bind fun g =>
 gH x3 x4 x6 x7 x8 x9 w g.1 g.2)
 ((aA 4 x9 H).bind fun z =>
 (cD 4 x6 z H).bind fun i =>
 (aA 4 x6 i).bind fun A => some (Value.tuple #[A, (vb false), (vb false)], i))) :=
 (pt rfl 0 GU (bt rfl (Mj [1, 1, 1, 0, 4]) 0 Pe (by kernel_rfl)))
noncomputable def BZ : OV := bn PP GG FF (Mj []) (ls [x0, x1, x2] 71) H z8 ca z8
theorem ny {r : Value × AH} (h : (
 aZ (Value.cells x0).toList H fun a b =>
 aZ (Value.cells x1).toList b fun c d =>
 aZ [(vi 0), (.slice none 0 0), (vi 0), (vw 0)] d fun e f =>
 aZ [(vi 0), (.slice none 0 0), (vi 0), (vw 0)] f fun g i =>
 nu x2 a c e (vb false) (vb false) g (vb false) (vb false) i) = some r) : FF fU [x0, x1, x2] H = some r :=
 fo (t := BZ x0 x1 x2 H) Tryz.func20 (by kernel_rfl) (Eq.trans (pt rfl 2 R7 (by kernel_rfl)) h)
theorem rx {r : Value × AH} (h : (
 (FF fJ [x0, x1] H).bind fun a =>
 (mD .not a.1).bind fun b =>
 ax b
 (some ((.pointer none), a.2))
 (ld [.n, .f 10] x0 a.2 fun c =>
 ld [.i 4 x1, .f 3] c a.2 fun d =>
 some (d, a.2))) = some r) : FF bS [x0, x1] H = some r :=
 fo Tryz.func21 (by kernel_rfl) h
theorem rE {r : Value × AH} (h : (
 ad [.n, .f 0] x0 fun b =>
 (ar b H).bind fun d =>
 (FF jb [x2, x3] H).bind fun c =>
 bZ (ar b c.2) (ar b H) <|
 (FF cU [d, x1, c.1] c.2).bind fun a =>
 (aq .other .eql a.1 (vw 0)).bind fun e =>
 ax e
 (some (Value.tuple #[(vi 0), (vi 0), (vb false)], a.2))
 ((aq .other .shr a.1 (vw 32)).bind fun g =>
 (cH (some .i64) g).bind fun i =>
 (aq .other .sub i (vi 1)).bind fun j =>
 (aq .other .and a.1 (vw 4294967295)).bind fun k =>
 (cH (some .i64) k).bind fun l =>
 some (Value.tuple #[j, l, (vb true)], a.2))) = some r) : FF fK [x0, x1, x2, x3] H = some r :=
 fo Tryz.func27 (by kernel_rfl) h
theorem sL {r : Value × AH} (h : (
 aZ [(vi 0), (vi 0), (vw 0)] H fun a g =>
 (FF fJ [x0, x2] g).bind fun b =>
 (mD .not b.1).bind fun j =>
 ax j
 (gC [(0, 1), (1, 1), (2, 1)] [(vi 0), (vi 0), (vw 0)] [] fun k =>
 (cD 3 a k b.2).bind fun d =>
 (aA 3 a d).bind fun l => some (l, d))
 (ld [.n, .f 0] x0 b.2 fun m =>
 gC [(0, 1), (1, 1), (2, 1)] [(vi 0), (vi 0), (vi 0)] [(0, (vi 13)), (1, x2)] fun o =>
 (FF i5 [m, x1, o] b.2).bind fun c =>
 ld [.n, .f 10] x0 c.2 fun p =>
 ldN 3 [.i 4 x2, .f 0] p c.2 fun q =>
 (cD 3 a q c.2).bind fun e =>
 (aA 3 a e).bind fun s => some (s, e))) = some r) : FF i7 [x0, x1, x2] H = some r :=
 fo Tryz.func28 (by kernel_rfl) h
theorem qt {r : Value × AH} (h : (
 ld [.n, .f 1] x0 H fun a =>
 (aq .other .rem x1 a).bind fun b =>
 ld [.n, .f 1] x0 H fun c =>
 (aq .other .add b c).bind fun d =>
 ld [.n, .f 1] x0 H fun e =>
 (aq .other .rem d e).bind fun g =>
 some (g, H)) = some r) : FF eS [x0, x1] H = some r :=
 fo Tryz.func29 (by kernel_rfl) h
theorem rD {r : Value × AH} (h : (
 ad [.n, .f 0] x0 fun a =>
 (ar a H).bind fun d =>
 (FF j1 [x2] H).bind fun b =>
 bZ (ar a b.2) (ar a H) <|
 (FF fi [d, x1, b.1, (vw 0), (vw 1)] b.2).bind fun c =>
 some (c.1, c.2)) = some r) : FF dW [x0, x1, x2] H = some r :=
 fo Tryz.func30 (by kernel_rfl) h
noncomputable def R8 (p : List Nat) : Code := Code.sub (ce Tryz.f31) p
noncomputable def z9 : KK := fE PP (Tryz.f31).results.toList
noncomputable def R9 : KK := CQ (R8 [1, 1]) z9 ca z9
noncomputable def p9 : OV := R9 (ls [u, x1, x2, x3] 29) H
noncomputable def Sb : KK := CQ (R8 [1, 1, 1]) z9 ca z9
noncomputable def jh : OV := Sb (ls [u, x1, x2, x3] 29) H
theorem yI : az 8589934587 z9 := rf
theorem Sa : az 8589934577 R9 := rc yI aH yI
theorem Sc : az 8589934577 Sb := rc yI aH yI
theorem uz : jh x1 x2 x3 H =
 ld [.f 0] x1 H fun k =>
 (FF eK [k, (vi 4)] H).bind fun b =>
 (aq .other .add (vi 1) b.1).bind fun l =>
 ad [.f 1] x1 fun g =>
 (ar g b.2).bind fun m =>
 bZ (ar g H) (ar g b.2) <|
 (FF eK [m, (vi 4)] b.2).bind fun c =>
 (aq .other .add (vi 1) c.1).bind fun n =>
 ad [.f 2] x1 fun e =>
 (ar e c.2).bind fun o =>
 bZ (ar e H) (ar e c.2) <|
 bZ (ar e b.2) (ar e c.2) <|
 (FF eK [o, (vi 6)] c.2).bind fun d =>
 (aq .other .add (vi 1) d.1).bind fun p =>
 ad [.f 3] x1 fun a =>
 (ar a d.2).bind fun q =>
 bZ (ar a H) (ar a d.2) <|
 bZ (ar a b.2) (ar a d.2) <|
 bZ (ar a c.2) (ar a d.2) <|
 (FF eK [q, (vi 12)] d.2).bind fun i =>
 gC [(0, 1), (1, 1), (2, 1), (3, 1), (4, 1)] [(vi 0), (vi 0), (vi 0), (vi 0), (vw 0)] [(0, l), (1, n), (2, p), (3, i.1), (4, x3)] fun s =>
 (cD 5 x2 s i.2).bind fun j =>
 (aA 5 x2 j).bind fun t => some (t, j) :=
 (by kernel_rfl)
theorem uy : p9 x1 x2 x3 H =
 ld [.f 4] x1 H fun a =>
 (aq .other .rem a (vw 4)).bind fun b =>
 (aq .other .eql b (vw 3)).bind fun c =>
 ax c
 (ld [.f 4] x1 H fun d =>
 (aq .other .rem d (vw 4611686018427387904)).bind fun e =>
 (aq .other .add (vw 1) e).bind fun g =>
 jh x1 x2 g H)
 (jh x1 x2 x3 H) :=
 (pt rfl 0 Sc (by kernel_rfl))
noncomputable def Hq : OV := bn PP GG FF (R8 []) (ls [x0] 32) H z9 ca z9
theorem AK {r : Value × AH} (h : (
 aZ (Value.cells x0).toList H fun a c =>
 aZ [(vi 0), (vi 0), (vi 0), (vi 0), (vw 0)] c fun d b =>
 ld [.f 4] a b fun e =>
 (aq .other .rem e (vw 5000)).bind fun g =>
 (aq .other .add (vw 1) g).bind fun i =>
 p9 a d i b) = some r) : FF mZ [x0] H = some r :=
 fo (t := Hq x0 H) Tryz.func31 (by kernel_rfl) (Eq.trans (pt rfl 1 Sa (by kernel_rfl)) h)
theorem E9 {r : Value × AH} (h : (
 aZ (Value.cells x0).toList H fun a m =>
 (aA 5 a m).bind fun n =>
 (FF mY [n] m).bind fun j =>
 (mD .not j.1).bind fun o =>
 ax o
 (some (Value.tuple #[(.pointer none), (vi 1)], j.2))
 ((FF vW [] j.2).bind fun b =>
 ld [.f 0] a b.2 fun p =>
 (FF pT [b.1, p] b.2).bind fun c =>
 ad [.f 0] a fun k =>
 (ar k c.2).bind fun q =>
 bZ (ar k b.2) (ar k c.2) <|
 ad [.f 1] a fun l =>
 (ar l c.2).bind fun s =>
 bZ (ar l b.2) (ar l c.2) <|
 (FF p0 [b.1, q, s] c.2).bind fun d =>
 ad [.f 2] a fun i =>
 (ar i d.2).bind fun t =>
 bZ (ar i b.2) (ar i d.2) <|
 bZ (ar i c.2) (ar i d.2) <|
 (FF sE [b.1, t] d.2).bind fun e =>
 (aA 5 a e.2).bind fun w =>
 bZ (aA 5 a b.2) (aA 5 a e.2) <|
 bZ (aA 5 a c.2) (aA 5 a e.2) <|
 bZ (aA 5 a d.2) (aA 5 a e.2) <|
 (FF sA [w] e.2).bind fun g =>
 (aA 5 a g.2).bind fun y =>
 bZ (aA 5 a b.2) (aA 5 a g.2) <|
 bZ (aA 5 a c.2) (aA 5 a g.2) <|
 bZ (aA 5 a d.2) (aA 5 a g.2) <|
 bZ (aA 5 a e.2) (aA 5 a g.2) <|
 B1 g.2 fun z A =>
 gC [(0, 1), (1, 1), (2, 1), (3, 1), (4, 1), (5, 5), (10, 1), (11, 1), (12, 1)] [(.pointer none), (.pointer none), (.pointer none), (.pointer none), (.pointer none), (vi 0), (vi 0), (vi 0), (vi 0), (vw 0), (.slice none 0 0), (.map none), (.slice none 0 0)] [(0, b.1), (1, c.1), (2, d.1), (3, e.1), (4, g.1), (5, y), (7, z)] fun B =>
 aZ (Value.cells B).toList A fun C D =>
 some (Value.tuple #[C, (vi 0)], D))) = some r) : FF pV [x0] H = some r :=
 fo Tryz.func32 (by kernel_rfl) h
theorem ye {r : Value × AH} (h : (
 aZ (Value.cells x0).toList H fun a m =>
 gC [(0, 1), (1, 1), (2, 1)] [(.slice none 0 0), (.slice none 0 0), (.slice none 0 0)] [] fun n =>
 aZ (Value.cells n).toList m fun i b =>
 (aA 5 a b).bind fun o =>
 ld [.f 0] a b fun p =>
 (FF lU [i, p] b).bind fun c =>
 bZ (aA 5 a c.2) (aA 5 a b) <|
 ad [.f 0] a fun j =>
 (ar j c.2).bind fun q =>
 bZ (ar j b) (ar j c.2) <|
 ad [.f 1] a fun k =>
 (ar k c.2).bind fun s =>
 bZ (ar k b) (ar k c.2) <|
 (FF lW [i, q, s] c.2).bind fun d =>
 bZ (aA 5 a d.2) (aA 5 a b) <|
 ad [.f 2] a fun g =>
 (ar g d.2).bind fun t =>
 bZ (ar g b) (ar g d.2) <|
 bZ (ar g c.2) (ar g d.2) <|
 (FF m5 [i, t] d.2).bind fun e =>
 bZ (aA 5 a e.2) (aA 5 a b) <|
 (aA 5 a e.2).bind fun w =>
 bZ (aA 5 a b) (aA 5 a e.2) <|
 bZ (aA 5 a c.2) (aA 5 a e.2) <|
 bZ (aA 5 a d.2) (aA 5 a e.2) <|
 (FF m0 [w] e.2).bind fun l =>
 bZ (aA 5 a l.2) (aA 5 a b) <|
 gC [(0, 5), (5, 1), (6, 1), (7, 1), (8, 1), (9, 1), (10, 1), (11, 1), (12, 1), (13, 1)] [(vi 0), (vi 0), (vi 0), (vi 0), (vw 0), (.pointer none), (.pointer none), (.pointer none), (.pointer none), (.pointer none), (.slice none 0 0), (.slice none 0 0), (.slice none 0 0), (.slice none 0 0)] [(0, o), (1, i), (2, c.1), (3, d.1), (4, e.1), (5, l.1)] fun y =>
 aZ (Value.cells y).toList l.2 fun z A =>
 some (z, A)) = some r) : FF lV [x0] H = some r :=
 fo Tryz.func33 (by kernel_rfl) h
theorem xA {r : Value × AH} (h : (
 aZ (Value.cells x0).toList H fun i l =>
 ld [.f 1] i l fun s =>
 ldN 5 [.n, .f 0] s l fun t =>
 aZ [(vi 0), (vi 0), (vi 0), (vi 0), (vw 0)] l fun g w =>
 (cD 5 g t w).bind fun p =>
 ld [.f 4] g p fun y =>
 (FF jW [y, x2] p).bind fun m =>
 (af m.1 0).bind fun z =>
 (af m.1 1).bind fun a3 =>
 gC [(0, 1), (1, 1), (2, 1)] [(vi 0), (vi 0), (vw 0)] [(0, x1), (1, x3), (2, z)] fun A =>
 aZ [(vi 0), (vi 0), (vw 0)] m.2 fun j B =>
 (cD 3 j A B).bind fun k =>
 ld [.f 0] i k fun C =>
 (aA 3 j k).bind fun D =>
 (FF dT [C, (vi 0), D] k).bind fun d =>
 ad [.f 1] i fun o =>
 (ar o d.2).bind fun E =>
 bZ (ar o k) (ar o d.2) <|
 (aA 3 j d.2).bind fun G =>
 bZ (aA 3 j k) (aA 3 j d.2) <|
 (FF gK [E, (vi 0), G] d.2).bind fun c =>
 (aq .other .eql d.1 c.1).bind fun a =>
 fT a true  [.f 0] i c.2 fun I =>
 fT a true  [.n, .f 2] I c.2 fun J =>
 (gV a true x1).bind fun K =>
 fT a true  [.f 0] g c.2 fun L =>
 (gB a true (aq .other .rem K L)).bind fun M =>
 (gV a true x1).bind fun N =>
 fT a true  [.f 0] g c.2 fun O =>
 (gB a true (aq .other .quo N O)).bind fun P =>
 (gV a true x1).bind fun Q =>
 (gV a true d.1).bind fun R =>
 (gE a true c.2 (FF ge [J, (vi 0), M, P, Q, R] c.2)).bind fun e =>
 (aX a e.1 (vb false)).bind fun b =>
 fT b true  [.f 1] i e.2 fun S =>
 fT b true  [.n, .f 7] S e.2 fun T =>
 (gV b true x1).bind fun U =>
 fT b true  [.f 0] g e.2 fun V =>
 (gB b true (aq .other .rem U V)).bind fun W =>
 (gV b true x1).bind fun X =>
 fT b true  [.f 0] g e.2 fun Y =>
 (gB b true (aq .other .quo X Y)).bind fun Z =>
 (gV b true x1).bind fun a0 =>
 (gV b true c.1).bind fun a1 =>
 (gE b true e.2 (FF iv [T, (vi 0), W, Z, a0, a1] e.2)).bind fun q =>
 (aX b q.1 (vb false)).bind fun a2 =>
 some (a2, q.2)) = some r) : FF lR [x0, x1, x2, x3] H = some r :=
 fo Tryz.func34 (by kernel_rfl) h
theorem ua {r : Value × AH} (h : (
 aZ (Value.cells x0).toList H fun a b =>
 ld [.f 0] a b fun d =>
 (FF g8 [d, x1, x2] b).bind fun c =>
 ld [.f 1] a c.2 fun e =>
 (FF i9 [e, x1, x2] c.2).bind fun g =>
 some (Value.tuple #[], g.2)) = some r) : FF jI [x0, x1, x2] H = some r :=
 fo Tryz.func41 (by kernel_rfl) h
theorem qe {r : Value × AH} (h : (
 aZ (Value.cells x2).toList H fun b a =>
 (aA 4 b a).bind fun c =>
 gC [(0, 1), (1, 1), (2, 4), (6, 1), (7, 1), (8, 1), (9, 1), (10, 1), (11, 1), (12, 1), (13, 1), (14, 1), (15, 1), (16, 1), (17, 4), (21, 1), (22, 1), (23, 1), (24, 1), (25, 1), (26, 3), (29, 1), (30, 4)] [(.pointer none), (vi 0), (vi 0), (vi 0), (vi 0), (vi 0), (vi 0), (vi 0), (vi 0), (vb false), (vi 0), (vw 0), (vw 0), (vw 0), (vw 0), (vw 0), (vi 0), (vi 0), (.slice none 0 0), (vi 0), (vw 0), (vi 0), (vi 0), (.slice none 0 0), (vw 0), (vw 0), (vi 0), (vi 0), (vi 0), (vb false), (vi 0), (.slice none 0 0), (vi 0), (vw 0)] [(0, x0), (1, x1), (2, c), (5, (vi (-1)))] fun d =>
 aZ (Value.cells d).toList a fun e f =>
 some (e, f)) = some r) : FF jY [x0, x1, x2] H = some r :=
 fo Tryz.func42 (by kernel_rfl) h
theorem I5 {r : Value × AH} (h : (
 aZ (Value.cells x2).toList H fun b a =>
 (aA 4 b a).bind fun e =>
 ld [.n, .f 2] x0 a fun g =>
 ld [.f 1] b a fun i =>
 (FF eS [g, i] a).bind fun c =>
 bZ (aA 4 b c.2) (aA 4 b a) <|
 gC [(0, 1), (1, 1), (2, 4), (6, 1), (7, 1), (8, 1), (9, 1), (10, 1), (11, 1), (12, 1), (13, 1), (14, 1), (15, 1)] [(.pointer none), (vi 0), (vi 0), (vi 0), (vi 0), (vi 0), (vi 0), Value.nilFunc, (vi 0), (vi 0), (vb false), (.pointer none), (vw 0), (vw 0), (vi 0), (vw 0)] [(0, x0), (1, x1), (2, e), (3, c.1)] fun j =>
 aZ (Value.cells j).toList c.2 fun d k =>
 st 1 [.n, .f 7] d (.func (.func lQ) #[d] #[]) k fun l =>
 some (d, l)) = some r) : FF vV [x0, x1, x2] H = some r :=
 fo Tryz.func43 (by kernel_rfl) h
noncomputable def Sd (p : List Nat) : Code := Code.sub (ce Tryz.f44) p
noncomputable def Aa : KK := fE PP (Tryz.f44).results.toList
noncomputable def Se : KK := CQ (Sd [1, 1, 1]) Aa ca Aa
noncomputable def A7 : OV := Se (ls [u, u, u, u, u, x5, x6, x7] 26) H
noncomputable def Sg : KK := CQ (Sd [1, 1, 1, 1]) Aa ca Aa
noncomputable def s8 : OV := Sg (ls [u, u, u, u, u, u, x6, x7] 26) H
theorem yJ : az 17179869119 Aa := rf
theorem Sf : az 17179868959 Se := rc yJ aH yJ
theorem Sh : az 17179868991 Sg := rc yJ aH yJ
theorem rR : s8 x6 x7 H =
 some (x7, H) :=
 (by kernel_rfl)
theorem B8 : A7 x5 x6 x7 H =
 ld [.f 0] x5 H fun a =>
 (aq .other .eql a (vi 1)).bind fun b =>
 ax b
 (st 1 [.n, .f 7] x7 (.func (.func fp) #[x7] #[]) H fun c =>
 s8 x6 x7 c)
 (s8 x6 x7 H) :=
 (pt rfl 0 Sh (by kernel_rfl))
noncomputable def W7 : OV := bn PP GG FF (Sd []) (ls [x0, x1, x2] 31) H Aa ca Aa
theorem Ki {r : Value × AH} (h : (
 aZ (Value.cells x2).toList H fun a b =>
 (aA 4 a b).bind fun e =>
 ld [.n, .f 2] x0 b fun g =>
 ld [.f 1] a b fun i =>
 (FF eS [g, i] b).bind fun c =>
 bZ (aA 4 a c.2) (aA 4 a b) <|
 gC [(0, 1), (1, 1), (2, 4), (6, 1), (7, 1), (8, 1), (9, 1), (10, 1), (11, 1), (12, 1), (13, 1), (14, 1), (15, 1), (16, 1)] [(.pointer none), (vi 0), (vi 0), (vi 0), (vi 0), (vi 0), (vi 0), Value.nilFunc, (vi 0), (vi 0), (vi 0), (vi 0), (.pointer none), (vw 0), (vw 0), (vi 0), (vi 0)] [(0, x0), (1, x1), (2, e), (3, c.1), (6, (vi (-1)))] fun j =>
 aZ (Value.cells j).toList c.2 fun d k =>
 st 1 [.n, .f 7] d (.func (.func eg) #[d] #[]) k fun l =>
 A7 a (.pointer none) d l) = some r) : FF vX [x0, x1, x2] H = some r :=
 fo (t := W7 x0 x1 x2 H) Tryz.func44 (by kernel_rfl) (Eq.trans (pt rfl 2 Sf (by kernel_rfl)) h)
theorem IN {r : Value × AH} (h : (
 aZ [(vi 0), (.slice none 0 0), (vi 0), (vw 0)] H fun b d =>
 ld [.n, .f 7] x0 d fun g =>
 (dd g [x1]).bind fun c => (FF c.1 c.2 d).bind fun a =>
 (af a.1 0).bind fun i =>
 (af a.1 1).bind fun j =>
 (cD 4 b i a.2).bind fun e =>
 (aA 4 b e).bind fun k => some (Value.tuple #[k, j], e)) = some r) : FF vU [x0, x1] H = some r :=
 fo Tryz.func45 (by kernel_rfl) h
noncomputable def cK (p : List Nat) : Code := Code.sub (ce Tryz.f46) p
noncomputable def gq : KK := fE PP (Tryz.f46).results.toList
noncomputable def Si : KK := CQ (cK [1, 1, 1]) gq ca gq
noncomputable def Kb : OV := Si (ls [x0, x1, u, u, x4, x5, x6, x7] 297) H
noncomputable def Sk : KK := CQ (cK [1, 1, 1, 1]) gq ca gq
noncomputable def Kc : OV := Sk (ls [x0, x1, u, u, x4, x5, x6, x7] 297) H
noncomputable def Jp : KK := CQ (cK [1, 1, 1, 1, 1]) gq ca gq
noncomputable def g6 : KK := jv NT Jp
noncomputable def fv : OV := Jp (ls [u, u, u, u, x4] 300) H
noncomputable def So : KK := CQ (cK [1, 1, 1, 1, 0, 1]) g6 ca gq
noncomputable def ox : OV := So (ls [x0, x1, u, u, x4, x5, x6, x7, u, u, u, u, u, u, u, u, u, u, u, u, u, u, u, u, u, u, u, u, u, u, u, u, u, u, u, u, u, u, u, u, u, u, u, u, u, u, u, u, u, u, u, u, u, u, u, u, u, u, u, u, u, u, u, u, u, u, u, u, u, u, u, u, u, u, u, u, u, u, u, u, u, u, u, u, u, u, u, u, u, u, u, u, u, x93] 211) H
noncomputable def Su : KX := BX 0 g6 ca
noncomputable def iX : KX := FV NT Su
noncomputable def Sr : KK := CQ (cK [1, 1, 1, 1, 0, 1, 4, 1]) g6 iX gq
noncomputable def Ke : OV := Sr (ls [x0, x1, u, u, x4, x5, x6, x7, u, u, u, u, u, u, u, u, u, u, u, u, u, u, u, u, u, u, u, u, u, u, u, u, u, u, u, u, u, u, u, u, u, u, u, u, u, u, u, u, u, u, u, u, u, u, u, u, u, u, u, u, u, u, u, u, u, u, u, u, u, u, u, u, u, u, u, u, u, u, u, u, u, u, u, u, u, u, u, u, u, u, u, u, u, x93, u, u, u, x97] 207) H
noncomputable def Ml : KK := CQ (cK [1, 1, 1, 1, 0, 1, 4, 1, 3, 1]) g6 iX gq
noncomputable def M8 : OV := Ml (ls [x0, x1, u, u, x4, x5, x6, x7, u, u, u, u, u, u, u, u, u, u, u, u, u, u, u, u, u, u, u, u, u, u, u, u, u, u, u, u, u, u, u, u, u, u, u, u, u, u, u, u, u, u, u, u, u, u, u, u, u, u, u, u, u, u, u, u, u, u, u, u, u, u, u, u, u, u, u, u, u, u, u, u, u, u, u, u, u, u, u, u, u, u, u, u, u, x93, u, u, u, u, u, u, u, u, u, u, u, u, u, u, u, u, u, u, x112] 192) H
noncomputable def Mm : KK := CQ (cK [1, 1, 1, 1, 0, 1, 4, 1, 3, 1, 3, 1]) g6 iX gq
noncomputable def M9 : OV := Mm (ls [x0, x1, u, u, x4, x5, x6, x7, u, u, u, u, u, u, u, u, u, u, u, u, u, u, u, u, u, u, u, u, u, u, u, u, u, u, u, u, u, u, u, u, u, u, u, u, u, u, u, u, u, u, u, u, u, u, u, u, u, u, u, u, u, u, u, u, u, u, u, u, u, u, u, u, u, u, u, u, u, u, u, u, u, u, u, u, u, u, u, u, u, u, u, u, u, x93, u, u, u, u, u, u, u, u, u, u, u, u, u, u, u, u, u, u, u, u, u, u, u, u, u, u, u, u, u, u, u, u, u, u, u, u, u, u, u, x133] 171) H
noncomputable def Mn : KK := CQ (cK [1, 1, 1, 1, 0, 1, 4, 1, 3, 1, 3, 1, 3, 1]) g6 iX gq
noncomputable def Na : OV := Mn (ls [x0, x1, u, u, x4, x5, x6, x7, u, u, u, u, u, u, u, u, u, u, u, u, u, u, u, u, u, u, u, u, u, u, u, u, u, u, u, u, u, u, u, u, u, u, u, u, u, u, u, u, u, u, u, u, u, u, u, u, u, u, u, u, u, u, u, u, u, u, u, u, u, u, u, u, u, u, u, u, u, u, u, u, u, u, u, u, u, u, u, u, u, u, u, u, u, x93, u, u, u, u, u, u, u, u, u, u, u, u, u, u, u, u, u, u, u, u, u, u, u, u, u, u, u, u, u, u, u, u, u, u, u, u, u, u, u, u, u, u, u, u, u, u, u, u, u, u, u, u, u, u, u, u, u, x151] 153) H
noncomputable def Mo : KK := CQ (cK [1, 1, 1, 1, 0, 1, 4, 1, 3, 1, 3, 1, 3, 1, 3, 1]) g6 iX gq
noncomputable def Fp : OV := Mo (ls [x0, x1, u, u, x4, x5, x6, x7, u, u, u, u, u, u, u, u, u, u, u, u, u, u, u, u, u, u, u, u, u, u, u, u, u, u, u, u, u, u, u, u, u, u, u, u, u, u, u, u, u, u, u, u, u, u, u, u, u, u, u, u, u, u, u, u, u, u, u, u, u, u, u, u, u, u, u, u, u, u, u, u, u, u, u, u, u, u, u, u, u, u, u, u, u, x93, u, u, u, u, u, u, u, u, u, u, u, u, u, u, u, u, u, u, u, u, u, u, u, u, u, u, u, u, u, u, u, u, u, u, u, u, u, u, u, u, u, u, u, u, u, u, u, u, u, u, u, u, u, u, u, u, u, u, u, u, u, u, u, u, u, u, u, u, u, u, u, u, u, u, u, u, u, x171] 133) H
noncomputable def Mq : KK := CQ (cK [1, 1, 1, 1, 0, 1, 4, 1, 3, 1, 3, 1, 3, 1, 3, 1, 3, 1]) g6 iX gq
noncomputable def Nb : OV := Mq (ls [x0, x1, u, u, x4, x5, x6, x7, u, u, u, u, u, u, u, u, u, u, u, u, u, u, u, u, u, u, u, u, u, u, u, u, u, u, u, u, u, u, u, u, u, u, u, u, u, u, u, u, u, u, u, u, u, u, u, u, u, u, u, u, u, u, u, u, u, u, u, u, u, u, u, u, u, u, u, u, u, u, u, u, u, u, u, u, u, u, u, u, u, u, u, u, u, x93, u, u, u, u, u, u, u, u, u, u, u, u, u, u, u, u, u, u, u, u, u, u, u, u, u, u, u, u, u, u, u, u, u, u, u, u, u, u, u, u, u, u, u, u, u, u, u, u, u, u, u, u, u, u, u, u, u, u, u, u, u, u, u, u, u, u, u, u, u, u, u, u, u, u, u, u, u, u, u, u, u, u, u, u, u, u, u, u, u, u, u, u, x186] 118) H
noncomputable def Mr : KK := CQ (cK [1, 1, 1, 1, 0, 1, 4, 1, 3, 1, 3, 1, 3, 1, 3, 1, 3, 1, 3, 1]) g6 iX gq
noncomputable def Fq : OV := Mr (ls [x0, x1, u, u, x4, x5, x6, x7, u, u, u, u, u, u, u, u, u, u, u, u, u, u, u, u, u, u, u, u, u, u, u, u, u, u, u, u, u, u, u, u, u, u, u, u, u, u, u, u, u, u, u, u, u, u, u, u, u, u, u, u, u, u, u, u, u, u, u, u, u, u, u, u, u, u, u, u, u, u, u, u, u, u, u, u, u, u, u, u, u, u, u, u, u, x93, u, u, u, u, u, u, u, u, u, u, u, u, u, u, u, u, u, u, u, u, u, u, u, u, u, u, u, u, u, u, u, u, u, u, u, u, u, u, u, u, u, u, u, u, u, u, u, u, u, u, u, u, u, u, u, u, u, u, u, u, u, u, u, u, u, u, u, u, u, u, u, u, u, u, u, u, u, u, u, u, u, u, u, u, u, u, u, u, u, u, u, u, u, u, u, u, u, u, u, u, u, u, u, x197] 107) H
noncomputable def Ms : KK := CQ (cK [1, 1, 1, 1, 0, 1, 4, 1, 3, 1, 3, 1, 3, 1, 3, 1, 3, 1, 3, 1, 2, 1, 1]) g6 iX gq
noncomputable def Nc : OV := Ms (ls [x0, u, u, u, x4, u, u, u, u, u, u, u, u, x13] 291) H
noncomputable def WH : KX := BX 1 g6 iX
noncomputable def Mt : KK := CQ (cK [1, 1, 1, 1, 0, 1, 4, 1, 3, 1, 3, 1, 3, 1, 3, 1, 3, 1, 3, 1, 3, 1]) g6 iX gq
noncomputable def Fs : OV := Mt (ls [x0, x1, u, u, x4, x5, x6, x7, u, u, u, u, u, u, u, u, u, u, u, u, u, u, u, u, u, u, u, u, u, u, u, u, u, u, u, u, u, u, u, u, u, u, u, u, u, u, u, u, u, u, u, u, u, u, u, u, u, u, u, u, u, u, u, u, u, u, u, u, u, u, u, u, u, u, u, u, u, u, u, u, u, u, u, u, u, u, u, u, u, u, u, u, u, x93, u, u, u, u, u, u, u, u, u, u, u, u, u, u, u, u, u, u, u, u, u, u, u, u, u, u, u, u, u, u, u, u, u, u, u, u, u, u, u, u, u, u, u, u, u, u, u, u, u, u, u, u, u, u, u, u, u, u, u, u, u, u, u, u, u, u, u, u, u, u, u, u, u, u, u, u, u, u, u, u, u, u, u, u, u, u, u, u, u, u, u, u, u, u, u, u, u, u, u, u, u, u, u, u, u, u, u, u, u, u, u, u, u, u, u, u, u, u, u, u, u, u, u, u, u, u, u, u, u, u, u, u, u, u, u, u, u, u, u, u, u, u, u, u, u, u, u, u, x242] 62) H
noncomputable def Mv : KK := CQ (cK [1, 1, 1, 1, 0, 1, 4, 1, 3, 1, 3, 1, 3, 1, 3, 1, 3, 1, 3, 1, 3, 1, 3, 1]) g6 iX gq
noncomputable def uP : OV := Mv (ls [x0, x1, u, u, x4, x5, x6, x7, u, u, u, u, u, u, u, u, u, u, u, u, u, u, u, u, u, u, u, u, u, u, u, u, u, u, u, u, u, u, u, u, u, u, u, u, u, u, u, u, u, u, u, u, u, u, u, u, u, u, u, u, u, u, u, u, u, u, u, u, u, u, u, u, u, u, u, u, u, u, u, u, u, u, u, u, u, u, u, u, u, u, u, u, u, x93, u, u, u, u, u, u, u, u, u, u, u, u, u, u, u, u, u, u, u, u, u, u, u, u, u, u, u, u, u, u, u, u, u, u, u, u, u, u, u, u, u, u, u, u, u, u, u, u, u, u, u, u, u, u, u, u, u, u, u, u, u, u, u, u, u, u, u, u, u, u, u, u, u, u, u, u, u, u, u, u, u, u, u, u, u, u, u, u, u, u, u, u, u, u, u, u, u, u, u, u, u, u, u, u, u, u, u, u, u, u, u, u, u, u, u, u, u, u, u, u, u, u, u, u, u, u, u, u, u, u, u, u, u, u, u, u, u, u, u, u, u, u, u, u, u, u, u, u, u, u, u, u, u, u, x248] 56) H
noncomputable def Mw : KK := CQ (cK [1, 1, 1, 1, 0, 1, 4, 1, 3, 1, 3, 1, 3, 1, 3, 1, 3, 1, 3, 1, 3, 1, 3, 1, 3, 1]) g6 iX gq
noncomputable def Ft : OV := Mw (ls [x0, x1, u, u, x4, x5, x6, u, u, u, u, u, u, u, u, u, u, u, u, u, u, u, u, u, u, u, u, u, u, u, u, u, u, u, u, u, u, u, u, u, u, u, u, u, u, u, u, u, u, u, u, u, u, u, u, u, u, u, u, u, u, u, u, u, u, u, u, u, u, u, u, u, u, u, u, u, u, u, u, u, u, u, u, u, u, u, u, u, u, u, u, u, u, x93, u, u, u, u, u, u, u, u, u, u, u, u, u, u, u, u, u, u, u, u, u, u, u, u, u, u, u, u, u, u, u, u, u, u, u, u, u, u, u, u, u, u, u, u, u, u, u, u, u, u, u, u, u, u, u, u, u, u, u, u, u, u, u, u, u, u, u, u, u, u, u, u, u, u, u, u, u, u, u, u, u, u, u, u, u, u, u, u, u, u, u, u, u, u, u, u, u, u, u, u, u, u, u, u, u, u, u, u, u, u, u, u, u, u, u, u, u, u, u, u, u, u, u, u, u, u, u, u, u, u, u, u, u, u, u, u, u, u, u, u, u, u, u, u, u, u, u, u, u, u, u, u, u, u, u, u, u, u, u, u, u, u, u, u, u, u, u, u, u, u, u, u, u, u, u, u, u, u, x272] 32) H
noncomputable def Mx : KK := CQ (cK [1, 1, 1, 1, 0, 1, 4, 1, 3, 1, 3, 1, 3, 1, 3, 1, 3, 1, 3, 1, 3, 1, 3, 1, 3, 1, 3, 1]) g6 iX gq
noncomputable def Nd : OV := Mx (ls [x0, x1, u, u, x4, x5, x6, u, u, u, u, u, u, u, u, u, u, u, u, u, u, u, u, u, u, u, u, u, u, u, u, u, u, u, u, u, u, u, u, u, u, u, u, u, u, u, u, u, u, u, u, u, u, u, u, u, u, u, u, u, u, u, u, u, u, u, u, u, u, u, u, u, u, u, u, u, u, u, u, u, u, u, u, u, u, u, u, u, u, u, u, u, u, x93, u, u, u, u, u, u, u, u, u, u, u, u, u, u, u, u, u, u, u, u, u, u, u, u, u, u, u, u, u, u, u, u, u, u, u, u, u, u, u, u, u, u, u, u, u, u, u, u, u, u, u, u, u, u, u, u, u, u, u, u, u, u, u, u, u, u, u, u, u, u, u, u, u, u, u, u, u, u, u, u, u, u, u, u, u, u, u, u, u, u, u, u, u, u, u, u, u, u, u, u, u, u, u, u, u, u, u, u, u, u, u, u, u, u, u, u, u, u, u, u, u, u, u, u, u, u, u, u, u, u, u, u, u, u, u, u, u, u, u, u, u, u, u, u, u, u, u, u, u, u, u, u, u, u, u, u, u, u, u, u, u, u, u, u, u, u, u, u, u, u, u, u, u, u, u, u, u, u, u, u, u, u, u, u, u, u, u, u, u, x283] 21) H
noncomputable def My : KK := CQ (cK [1, 1, 1, 1, 0, 1, 4, 1, 3, 1, 3, 1, 3, 1, 3, 1, 3, 1, 3, 1, 3, 1, 3, 1, 3, 1, 3, 1, 3, 1]) g6 iX gq
noncomputable def kX : OV := My (ls [x0, x1, u, u, x4, u, x6, u, u, u, u, u, u, u, u, u, u, u, u, u, u, u, u, u, u, u, u, u, u, u, u, u, u, u, u, u, u, u, u, u, u, u, u, u, u, u, u, u, u, u, u, u, u, u, u, u, u, u, u, u, u, u, u, u, u, u, u, u, u, u, u, u, u, u, u, u, u, u, u, u, u, u, u, u, u, u, u, u, u, u, u, u, u, u, u, u, u, u, u, u, u, u, u, u, u, u, u, u, u, u, u, u, u, u, u, u, u, u, u, u, u, u, u, u, u, u, u, u, u, u, u, u, u, u, u, u, u, u, u, u, u, u, u, u, u, u, u, u, u, u, u, u, u, u, u, u, u, u, u, u, u, u, u, u, u, u, u, u, u, u, u, u, u, u, u, u, u, u, u, u, u, u, u, u, u, u, u, u, u, u, u, u, u, u, u, u, u, u, u, u, u, u, u, u, u, u, u, u, u, u, u, u, u, u, u, u, u, u, u, u, u, u, u, u, u, u, u, u, u, u, u, u, u, u, u, u, u, u, u, u, u, u, u, u, u, u, u, u, u, u, u, u, u, u, u, u, u, u, u, u, u, u, u, u, u, u, u, u, u, u, u, u, u, u, u, u, u, u, u, u, u, u, u, u, u, u, u, u, u, u, u, u, u, u, u, u, u, x297] 7) H
theorem du : az NT gq := rf
theorem Sj : az XK Si := rc du aH du
theorem Sn : az XK Sk := rc du aH du
theorem dn : az NT Jp := rc du aH du
theorem Sq : az 65185151242703554760590262029100101153646988597309960020356494369436681278143732398675721996 So := rc (cd dn) aH du
theorem dS : ∀ i, az NT (Su i) := rb (cd dn) aH
theorem Ss : az 65185151242703554760590262029100101153646988597309960020356494210980356249615057211587821324 Sr := rc (cd dn) (cx dS) du
theorem Ph : az 65185151242703554760590262029100101153646988597309960020351302072578146450515201902346501900 Ml := rc (cd dn) (cx dS) du
theorem Pi : az 65185151242703554760590262029100101153646988597309949131320752899405850450156294582092955404 Mm := rc (cd dn) (cx dS) du
theorem Pj : az 65185151242703554760590262029100101153646988594455464634944574607320109339244742125910228748 Mn := rc (cd dn) (cx dS) du
theorem Pl : az 65185151242703554760590262029100101153643995441956706331180013222899278330519477048827707148 Mo := rc (cd dn) (cx dS) du
theorem Pm : az 65185151242703554760590262029100101055567273981893073085422284631816893526544428578925182732 Mq := rc (cd dn) (cx dS) du
theorem Pn : az 65185151242703554760590262029099900286391456223525517275094951724111366002769509549571309324 Mr := rc (cd dn) (cx dS) du
theorem Po : az 65185151242703554760590262029100101153646988597309960020356494379340201592426774597868707822 Ms := rc (cd dn) (cx dS) du
theorem Pv : ∀ i, az NT (WH i) := rb (cd dn) (cx dS)
theorem Pp : az 65185151242703554753522873769986563835313798594338285957046558781934205445657307593505242892 Mt := rc (cd dn) (cx dS) du
theorem Pq : az 65185151242703554308277413445833712780322828407122819968520616769278227999012544867765059340 Mv := rc (cd dn) (cx dS) du
theorem Pr : az 65185151235115004400333507845820953080117617868238058305309074364546789052601137534592876428 Mw := rc (cd dn) (cx dS) du
theorem Ps : az 65185135701352416954757694673404846565495735458055247603240324354937403366909450757007736716 Mx := rc (cd dn) (cx dS) du
theorem Pu : az 64930521745661743999806706318048928883515555048101717989026976823170903929956357509595791276 My := rc (cd dn) (cx dS) du
theorem cw : fv x4 H =
 some ((vb false), H) :=
 (by kernel_rfl)
theorem Kd : Nc x0 x4 x13 H =
 (FF bU [x0] H).bind fun a =>
 ad [.n, .f 11] x0 fun c =>
 (ar c a.2).bind fun e =>
 bZ (ar c H) (ar c a.2) <|
 ad [.n, .f 12] x0 fun d =>
 (ar d a.2).bind fun g =>
 bZ (ar d H) (ar d a.2) <|
 (FF ip [a.1, e, g] a.2).bind fun b =>
 ax b.1
 (st 1 [.n, .f 6] x0 (vi 15) b.2 fun i =>
 fv x4 i)
 ((aq .other .eql x13 (vi 1)).bind fun j =>
 ax j
 (st 1 [.n, .f 6] x0 (vi 9) b.2 fun k =>
 fv x4 k)
 (st 1 [.n, .f 6] x0 (vi 12) b.2 fun l =>
 fv x4 l)) :=
 (bt rfl (cK [1, 1, 1, 1, 0, 1, 4, 1, 3, 1, 3, 1, 3, 1, 3, 1, 3, 1, 3, 1, 2, 1, 1, 4]) 1 Pv (by kernel_rfl))
theorem ma : kX x0 x1 x4 x6 x297 H =
 ax x297
 ((FF Yd [x0, x1] H).bind fun a =>
 some (a.1, a.2))
 ((FF TJ [x0, x6] H).bind fun b =>
 some (b.1, b.2)) :=
 (by kernel_rfl)
theorem A4 : Nd x0 x1 x4 x5 x6 x93 x283 H =
 ax x283
 (ld [.n, .f 6] x5 H fun d =>
 ld [.n, .f 1] x0 H fun e =>
 (FF i8 [d, e] H).bind fun g =>
 st 1 [.n, .f 6] x0 (vi 13) g.2 fun i =>
 fv x4 i)
 ((aq .other .eql x93 (vi 15)).bind fun a =>
 ax a
 (kX x0 x1 x4 x6 a H)
 ((aq .other .eql x93 (vi 16)).bind fun b =>
 ax b
 (kX x0 x1 x4 x6 b H)
 ((aq .other .eql x93 (vi 17)).bind fun c =>
 ax c
 (kX x0 x1 x4 x6 c H)
 ((aq .other .eql x93 (vi 18)).bind fun j =>
 kX x0 x1 x4 x6 j H)))) :=
 (ct rfl (cK [1, 1, 1, 1, 0, 1, 4, 1, 3, 1, 3, 1, 3, 1, 3, 1, 3, 1, 3, 1, 3, 1, 3, 1, 3, 1, 3, 1, 2]) (cK [1, 1, 1, 1, 0, 1, 4, 1, 3, 1, 3, 1, 3, 1, 3, 1, 3, 1, 3, 1, 3, 1, 3, 1, 3, 1, 3, 1, 3]) (.tmp 283) (by kernel_rfl) (pt rfl 0 Pu (by kernel_rfl)))
theorem s7 : Ft x0 x1 x4 x5 x6 x93 x272 H =
 ax x272
 ((FF bU [x0] H).bind fun a =>
 ad [.n, .f 1] x0 fun b =>
 (ar b a.2).bind fun d =>
 bZ (ar b H) (ar b a.2) <|
 (FF fm [x0] a.2).bind fun c =>
 bZ (ar b c.2) (ar b a.2) <|
 (FF ir [a.1, d, c.1] c.2).bind fun e =>
 some ((vb true), e.2))
 ((aq .other .eql x93 (vi 12)).bind fun g =>
 Nd x0 x1 x4 x5 x6 x93 g H) :=
 (ct rfl (cK [1, 1, 1, 1, 0, 1, 4, 1, 3, 1, 3, 1, 3, 1, 3, 1, 3, 1, 3, 1, 3, 1, 3, 1, 3, 1, 2]) (cK [1, 1, 1, 1, 0, 1, 4, 1, 3, 1, 3, 1, 3, 1, 3, 1, 3, 1, 3, 1, 3, 1, 3, 1, 3, 1, 3]) (.tmp 272) (by kernel_rfl) (pt rfl 0 Ps (by kernel_rfl)))
theorem s6 : uP x0 x1 x4 x5 x6 x7 x93 x248 H =
 ax x248
 ((FF bU [x0] H).bind fun a =>
 ad [.n, .f 1] x0 fun c =>
 (ar c a.2).bind fun e =>
 bZ (ar c H) (ar c a.2) <|
 (FF fm [x0] a.2).bind fun b =>
 bZ (ar c b.2) (ar c a.2) <|
 (aA 3 x7 b.2).bind fun g =>
 bZ (aA 3 x7 H) (aA 3 x7 b.2) <|
 bZ (aA 3 x7 a.2) (aA 3 x7 b.2) <|
 (FF lX [a.1, e, b.1, g] b.2).bind fun i =>
 st 1 [.n, .f 6] x0 (vi 11) i.2 fun d =>
 ld [.n, .f 13] x0 d fun j =>
 (aq .other .eql j (vw 1)).bind fun k =>
 ax k
 (st 1 [.n, .f 6] x0 (vi 21) d fun l =>
 fv x4 l)
 (fv x4 d))
 ((aq .other .eql x93 (vi 11)).bind fun m =>
 Ft x0 x1 x4 x5 x6 x93 m H) :=
 (ct rfl (cK [1, 1, 1, 1, 0, 1, 4, 1, 3, 1, 3, 1, 3, 1, 3, 1, 3, 1, 3, 1, 3, 1, 3, 1, 2]) (cK [1, 1, 1, 1, 0, 1, 4, 1, 3, 1, 3, 1, 3, 1, 3, 1, 3, 1, 3, 1, 3, 1, 3, 1, 3]) (.tmp 248) (by kernel_rfl) (pt rfl 0 Pr (by kernel_rfl)))
theorem s5 : Fs x0 x1 x4 x5 x6 x7 x93 x242 H =
 ax x242
 ((FF jM [x0, x1] H).bind fun b =>
 fv x4 b.2)
 ((aq .other .eql x93 (vi 10)).bind fun a =>
 ax a
 (uP x0 x1 x4 x5 x6 x7 x93 a H)
 ((aq .other .eql x93 (vi 14)).bind fun c =>
 uP x0 x1 x4 x5 x6 x7 x93 c H)) :=
 (ct rfl (cK [1, 1, 1, 1, 0, 1, 4, 1, 3, 1, 3, 1, 3, 1, 3, 1, 3, 1, 3, 1, 3, 1, 2]) (cK [1, 1, 1, 1, 0, 1, 4, 1, 3, 1, 3, 1, 3, 1, 3, 1, 3, 1, 3, 1, 3, 1, 3]) (.tmp 242) (by kernel_rfl) (pt rfl 0 Pq (by kernel_rfl)))
theorem oy : Fq x0 x1 x4 x5 x6 x7 x93 x197 H =
 ax x197
 ((FF bU [x0] H).bind fun a =>
 ad [.n, .f 1] x0 fun c =>
 (ar c a.2).bind fun i =>
 bZ (ar c H) (ar c a.2) <|
 (FF iq [a.1, i] a.2).bind fun d =>
 st 1 [.n, .f 12] x0 d.1 d.2 fun e =>
 ld [.n, .f 11] x0 e fun j =>
 (FF gu [j] e).bind fun b =>
 (af b.1 0).bind fun m =>
 (af b.1 1).bind fun k =>
 (af b.1 2).bind fun o =>
 Nc x0 x4 k b.2)
 ((aq .other .eql x93 (vi 9)).bind fun g =>
 ax g
 (Fs x0 x1 x4 x5 x6 x7 x93 g H)
 ((aq .other .eql x93 (vi 13)).bind fun l =>
 Fs x0 x1 x4 x5 x6 x7 x93 l H)) :=
 (ct rfl (cK [1, 1, 1, 1, 0, 1, 4, 1, 3, 1, 3, 1, 3, 1, 3, 1, 3, 1, 3, 1, 2]) (cK [1, 1, 1, 1, 0, 1, 4, 1, 3, 1, 3, 1, 3, 1, 3, 1, 3, 1, 3, 1, 3]) (.tmp 197) (pt rfl 1 Po (by kernel_rfl)) (pt rfl 0 Pp (by kernel_rfl)))
theorem AZ : Nb x0 x1 x4 x5 x6 x7 x93 x186 H =
 ax x186
 (st 1 [.n, .f 6] x0 (vi 8) H fun b =>
 (FF ef [x0] b).bind fun a =>
 (aq .other .eql a.1 (vi 2)).bind fun c =>
 ax c
 (st 1 [.n, .f 6] x0 (vi 3) a.2 fun d =>
 fv x4 d)
 (fv x4 a.2))
 ((aq .other .eql x93 (vi 8)).bind fun e =>
 Fq x0 x1 x4 x5 x6 x7 x93 e H) :=
 (ct rfl (cK [1, 1, 1, 1, 0, 1, 4, 1, 3, 1, 3, 1, 3, 1, 3, 1, 3, 1, 2]) (cK [1, 1, 1, 1, 0, 1, 4, 1, 3, 1, 3, 1, 3, 1, 3, 1, 3, 1, 3]) (.tmp 186) (by kernel_rfl) (pt rfl 0 Pn (by kernel_rfl)))
theorem s4 : Fp x0 x1 x4 x5 x6 x7 x93 x171 H =
 ax x171
 (ld [.n, .f 1] x0 H fun a =>
 ld [.n, .f 10] x0 H fun b =>
 (FF kz [x5, a, b] H).bind fun c =>
 st 1 [.n, .f 6] x0 (vi 7) c.2 fun d =>
 fv x4 d)
 ((aq .other .eql x93 (vi 7)).bind fun e =>
 Nb x0 x1 x4 x5 x6 x7 x93 e H) :=
 (ct rfl (cK [1, 1, 1, 1, 0, 1, 4, 1, 3, 1, 3, 1, 3, 1, 3, 1, 2]) (cK [1, 1, 1, 1, 0, 1, 4, 1, 3, 1, 3, 1, 3, 1, 3, 1, 3]) (.tmp 171) (by kernel_rfl) (pt rfl 0 Pm (by kernel_rfl)))
theorem AY : Na x0 x1 x4 x5 x6 x7 x93 x151 H =
 ax x151
 (ld [.n, .f 7] x5 H fun b =>
 ld [.n, .f 1] x0 H fun c =>
 (FF dV [b, c, x6] H).bind fun a =>
 ld [.n, .f 9] x0 a.2 fun d =>
 (mD .not d).bind fun e =>
 ax e
 (some ((vb true), a.2))
 (st 1 [.n, .f 6] x0 (vi 6) a.2 fun g =>
 fv x4 g))
 ((aq .other .eql x93 (vi 6)).bind fun i =>
 Fp x0 x1 x4 x5 x6 x7 x93 i H) :=
 (ct rfl (cK [1, 1, 1, 1, 0, 1, 4, 1, 3, 1, 3, 1, 3, 1, 2]) (cK [1, 1, 1, 1, 0, 1, 4, 1, 3, 1, 3, 1, 3, 1, 3]) (.tmp 151) (by kernel_rfl) (pt rfl 0 Pl (by kernel_rfl)))
theorem s3 : M9 x0 x1 x4 x5 x6 x7 x93 x133 H =
 ax x133
 ((FF AI [x0] H).bind fun a =>
 (af a.1 0).bind fun b =>
 (af a.1 1).bind fun c =>
 ax b
 (st 1 [.n, .f 6] x0 (vi 5) a.2 fun d =>
 fv x4 d)
 (ax c
 ((FF bC [x0, x1, (vi 5)] a.2).bind fun e =>
 st 1 [.n, .f 6] x0 (vi 5) e.2 fun g =>
 fv x4 g)
 (fv x4 a.2)))
 ((aq .other .eql x93 (vi 5)).bind fun i =>
 Na x0 x1 x4 x5 x6 x7 x93 i H) :=
 (ct rfl (cK [1, 1, 1, 1, 0, 1, 4, 1, 3, 1, 3, 1, 2]) (cK [1, 1, 1, 1, 0, 1, 4, 1, 3, 1, 3, 1, 3]) (.tmp 133) (by kernel_rfl) (pt rfl 0 Pj (by kernel_rfl)))
theorem ow : M8 x0 x1 x4 x5 x6 x7 x93 x112 H =
 ax x112
 (ld [.n, .f 7] x5 H fun b =>
 ld [.n, .f 1] x0 H fun c =>
 (FF gL [b, c, x6] H).bind fun a =>
 ax a.1
 (st 1 [.n, .f 6] x0 (vi 4) a.2 fun d =>
 st 1 [.n, .f 7] x0 (vi 0) d fun e =>
 st 1 [.n, .f 9] x0 (vb false) e fun g =>
 fv x4 g)
 (fv x4 a.2))
 ((aq .other .eql x93 (vi 4)).bind fun i =>
 M9 x0 x1 x4 x5 x6 x7 x93 i H) :=
 (ct rfl (cK [1, 1, 1, 1, 0, 1, 4, 1, 3, 1, 2]) (cK [1, 1, 1, 1, 0, 1, 4, 1, 3, 1, 3]) (.tmp 112) (by kernel_rfl) (pt rfl 0 Pi (by kernel_rfl)))
theorem nM : Ke x0 x1 x4 x5 x6 x7 x93 x97 H =
 ax x97
 ((FF AI [x0] H).bind fun a =>
 (af a.1 0).bind fun b =>
 (af a.1 1).bind fun c =>
 ax b
 (st 1 [.n, .f 6] x0 (vi 6) a.2 fun d =>
 fv x4 d)
 (ax c
 (st 1 [.n, .f 6] x0 (vi 3) a.2 fun e =>
 fv x4 e)
 (fv x4 a.2)))
 ((aq .other .eql x93 (vi 3)).bind fun g =>
 M8 x0 x1 x4 x5 x6 x7 x93 g H) :=
 (ct rfl (cK [1, 1, 1, 1, 0, 1, 4, 1, 2]) (cK [1, 1, 1, 1, 0, 1, 4, 1, 3]) (.tmp 97) (by kernel_rfl) (pt rfl 0 Ph (by kernel_rfl)))
theorem lu : ox x0 x1 x4 x5 x6 x7 x93 H =
 (aq .other .eql x93 (vi 2)).bind fun a =>
 Ke x0 x1 x4 x5 x6 x7 x93 a H :=
 (bt rfl (cK [1, 1, 1, 1, 0, 1, 4]) 0 dS (pt rfl 0 Ss (by kernel_rfl)))
theorem C8 : Kc x0 x1 x4 x5 x6 x7 H =
 ld [.n, .f 6] x0 H fun a =>
 ox x0 x1 x4 x5 x6 x7 a H :=
 (pt rfl 0 dn (pt rfl 0 Sq (by kernel_rfl)))
theorem C7 : Kb x0 x1 x4 x5 x6 x7 H =
 ld [.n, .f 6] x0 H fun c =>
 (aq .other .eql c (vi 0)).bind fun d =>
 ax d
 (ld [.n, .f 2, .f 2] x0 H fun e =>
 (aq .other .lss e (vi 1)).bind fun a =>
 (gV a false x0).bind fun g =>
 fT a false  [.n, .f 2, .f 2] g H fun i =>
 (gB a false (aq .other .gtr i (vi 65536))).bind fun j =>
 (aX a (vb true) j).bind fun k =>
 ax k
 ((FF bC [x0, x1, (vi 3)] H).bind fun l =>
 some ((vb true), l.2))
 (ld [.n, .f 2, .f 1] x0 H fun m =>
 (aq .other .lss m (vi 0)).bind fun b =>
 (gV b false x0).bind fun o =>
 fT b false  [.n, .f 2, .f 1] o H fun p =>
 (gB b false (aq .other .gtr p (vi 1048576))).bind fun q =>
 (aX b (vb true) q).bind fun s =>
 ax s
 ((FF bC [x0, x1, (vi 5)] H).bind fun t =>
 some ((vb true), t.2))
 (st 1 [.n, .f 6] x0 (vi 2) H fun w =>
 Kc x0 x1 x4 x5 x6 x7 w)))
 (Kc x0 x1 x4 x5 x6 x7 H) :=
 (pt rfl 0 Sn (by kernel_rfl))
noncomputable def rTE : OV := bn PP GG FF (cK []) (ls [x0, x1] 303) H gq ca gq
theorem Y3 {r : Value × AH} (h : (
 ad [.n, .f 0] x0 fun b =>
 (ar b H).bind fun d =>
 ld [.n, .f 0] x0 H fun e =>
 ld [.n, .f 7] e H fun g =>
 ld [.n, .f 2, .f 1] x0 H fun i =>
 (FF eu [g, i] H).bind fun a =>
 bZ (ar b a.2) (ar b H) <|
 ld [.n, .f 2, .f 1] x0 a.2 fun j =>
 ld [.n, .f 2, .f 2] x0 a.2 fun k =>
 ld [.n, .f 2, .f 3] x0 a.2 fun l =>
 gC [(0, 1), (1, 1), (2, 1)] [(vi 0), (vi 0), (vi 0)] [(0, j), (1, k), (2, l)] fun m =>
 aZ [(vi 0), (vi 0), (vi 0)] a.2 fun c o =>
 (cD 3 c m o).bind fun p =>
 Kb x0 x1 (vb false) d a.1 c p) = some r) : FF ez [x0, x1] H = some r :=
 fo (t := rTE x0 x1 H) Tryz.func46 (by kernel_rfl) (Eq.trans (pt rfl 2 Sj (by kernel_rfl)) h)
theorem yj {r : Value × AH} (h : (
 aZ [(vi 0), (.slice none 0 0), (vi 0), (vw 0)] H fun b d =>
 ld [.n, .f 7] x0 d fun g =>
 (dd g [x1]).bind fun c => (FF c.1 c.2 d).bind fun a =>
 (af a.1 0).bind fun i =>
 (af a.1 1).bind fun j =>
 (cD 4 b i a.2).bind fun e =>
 (aA 4 b e).bind fun k => some (Value.tuple #[k, j], e)) = some r) : FF lY [x0, x1] H = some r :=
 fo Tryz.func47 (by kernel_rfl) h
end
section
variable (Y Z x2 x3 x4 x5 x6 x7 x8 x13 x30 x114 : Value) (H : AH)
noncomputable def lO (p : List Nat) : Code := Code.sub (ce Tryz.f48) p
noncomputable def mp : KK := fE PP (Tryz.f48).results.toList
noncomputable def Sw : KK := CQ (lO [1, 1]) mp ca mp
noncomputable def kC : OV := Sw (ls [Y, Z, u, u, x4, x5, x6] 141) H
noncomputable def Js : KK := CQ (lO [1, 1, 1]) mp ca mp
noncomputable def Jq : KK := jv Rf Js
noncomputable def fX : OV := Js (ls [Y, Z, u, u, x4, x5, x6] 141) H
noncomputable def Jt : KK := CQ (lO [1, 1, 1, 1]) mp ca mp
noncomputable def Jr : KK := jv Ri Jt
noncomputable def oW : OV := Jt (ls [Y, Z, u, u, x4, u, x6] 141) H
noncomputable def SC : KX := BX 1 Jr ca
noncomputable def SD : KX := FV Ri SC
noncomputable def Sy : KK := CQ (lO [1, 1, 1, 0, 4, 1]) Jr SD mp
noncomputable def oX : OV := Sy (ls [Y, Z, u, u, x4, x5, x6, u, u, u, u, u, u, u, u, u, u, u, u, u, u, u, u, u, u, u, u, u, u, u, u, u, u, u, u, u, u, u, u, u, u, u, u, u, u, u, u, u, u, u, u, u, u, u, u, u, u, u, u, u, u, u, u, u, u, u, u, u, u, u, u, u, u, u, u, u, u, u, u, u, u, u, u, u, u, u, u, u, u, u, u, u, u, u, u, u, u, u, u, u, u, u, u, u, u, u, u, u, u, u, u, u, u, u, x114] 33) H
noncomputable def SA : KK := CQ (lO [1, 1, 1, 0, 4, 1, 2, 1]) Jr SD mp
noncomputable def kD : OV := SA (ls [Y, Z, u, u, x4, u, x6] 141) H
noncomputable def Mz : KK := CQ (lO [1, 1, 0, 1]) Jq ca mp
noncomputable def nI : OV := Mz (ls [Y, Z, u, u, x4, x5, x6, u, u, u, u, u, u, u, u, u, u, u, u, u, u, u, u, u, u, u, u, u, u, u, x30] 117) H
noncomputable def MA : KK := CQ (lO [1, 1, 0, 1, 2, 1, 1]) Jq ca mp
noncomputable def gS : OV := MA (ls [Y, Z, u, u, x4, x5, x6, x7, x8] 139) H
noncomputable def EE : KK := CQ (lO [1, 1, 0, 1, 2, 1, 1, 1]) Jq ca mp
noncomputable def WI : KK := jv Rg EE
noncomputable def cN : OV := EE (ls [Y, Z, u, u, x4, x5, x6, x7] 140) H
noncomputable def WJ : KX := BX 0 WI ca
theorem iY : az 356811923176489970264571492362373784095686639 mp := rf
theorem Sx : az Rf Sw := rc iY aH iY
theorem tU : az Rf Js := rc iY aH iY
theorem tV : az Ri Jt := rc iY aH iY
theorem Ab : ∀ i, az Ri (SC i) := rb (cd tV) aH
theorem Sz : az 356811923155720782830432181848251798778806156 Sy := rc (cd tV) (cx Ab) iY
theorem SB : az Ri SA := rc (cd tV) (cx Ab) iY
theorem Pw : az 356811923176489970264571492362373783021944716 Mz := rc (cd tU) aH iY
theorem Px : az 356811923176489970264571492362373784095686156 MA := rc (cd tU) aH iY
theorem CP : az Rg EE := rc (cd tU) aH iY
theorem Py : ∀ i, az Rg (WJ i) := rb (cd CP) aH
theorem sZ : oW Y Z x4 x6 H =
 (FF oP [Y, Z, x6] H).bind fun a =>
 some (a.1, a.2) :=
 (by kernel_rfl)
theorem l8 : kD Y Z x4 x6 H =
 some ((vb false), H) :=
 (by kernel_rfl)
theorem iI : oX Y Z x4 x5 x6 x114 H =
 ax x114
 (ld [.n, .f 7] x5 H fun c =>
 ld [.n, .f 1] Y H fun d =>
 (FF gL [c, d, x6] H).bind fun a =>
 ax a.1
 (st 1 [.n, .f 6] Y (vi 3) a.2 fun e =>
 kD Y Z x4 x6 e)
 (kD Y Z x4 x6 a.2))
 (ld [.n, .f 2, .f 0] Y H fun g =>
 (aq .other .eql g (vi 1)).bind fun i =>
 ax i
 ((FF kJ [Y, Z, x6] H).bind fun b =>
 some (b.1, b.2))
 (oW Y Z x4 x6 H)) :=
 (ct rfl (lO [1, 1, 1, 0, 4, 1, 2]) (lO [1, 1, 1, 0, 4, 1, 3]) (.tmp 114) (pt rfl 0 SB (by kernel_rfl)) (by kernel_rfl))
theorem iH : fX Y Z x4 x5 x6 H =
 ld [.n, .f 6] Y H fun a =>
 (aq .other .eql a (vi 2)).bind fun b =>
 oX Y Z x4 x5 x6 b H :=
 (pt rfl 0 tV (bt rfl (lO [1, 1, 1, 0, 4]) 1 Ab (pt rfl 0 Sz (by kernel_rfl))))
theorem kO : cN Y Z x4 x5 x6 x7 H =
 (aq .other .neq x7 (vi 0)).bind fun a =>
 ax a
 ((FF bC [Y, Z, x7] H).bind fun b =>
 some ((vb true), b.2))
 (st 1 [.n, .f 6] Y (vi 2) H fun c =>
 fX Y Z x4 x5 x6 c) :=
 (by kernel_rfl)
theorem kN : gS Y Z x4 x5 x6 x7 x8 H =
 ld [.n, .f 2, .f 0] Y H fun g =>
 (aq .other .neq g (vi 1)).bind fun e =>
 (gV e true x8).bind fun i =>
 (gB e true (mD .not i)).bind fun j =>
 (aX e j (vb false)).bind fun k =>
 ax k
 (cN Y Z x4 x5 x6 (vi 5) H)
 ((mD .not x8).bind fun l =>
 ax l
 (cN Y Z x4 x5 x6 (vi 1) H)
 (ld [.n, .f 2, .f 0] Y H fun m =>
 (aq .other .eql m (vi 1)).bind fun a =>
 (gV a true Y).bind fun o =>
 fT a true  [.n, .f 2, .f 2] o H fun p =>
 (gB a true (aq .other .lss p (vi 1))).bind fun q =>
 (gV a true q).bind fun c =>
 (gV c false Y).bind fun s =>
 fT c false  [.n, .f 2, .f 2] s H fun t =>
 (gB c false (aq .other .gtr t (vi 65536))).bind fun w =>
 (gB a true (aX c (vb true) w)).bind fun y =>
 (aX a y (vb false)).bind fun z =>
 ax z
 (cN Y Z x4 x5 x6 (vi 4) H)
 (ld [.n, .f 2, .f 0] Y H fun A =>
 (aq .other .eql A (vi 1)).bind fun b =>
 (gV b true Y).bind fun B =>
 fT b true  [.n, .f 2, .f 3] B H fun C =>
 (gB b true (aq .other .lss C (vi 1))).bind fun D =>
 (gV b true D).bind fun d =>
 (gV d false Y).bind fun E =>
 fT d false  [.n, .f 2, .f 3] E H fun G =>
 (gB d false (aq .other .gtr G (vi 8))).bind fun I =>
 (gB b true (aX d (vb true) I)).bind fun J =>
 (aX b J (vb false)).bind fun K =>
 ax K
 (cN Y Z x4 x5 x6 (vi 1) H)
 (cN Y Z x4 x5 x6 x7 H)))) :=
 (pt rfl 0 CP (bt rfl (lO [1, 1, 0, 1, 2, 1, 1, 0, 4]) 0 Py (by kernel_rfl)))
theorem kM : nI Y Z x4 x5 x6 x30 H =
 ax x30
 (ld [.n, .f 2, .f 1] Y H fun b =>
 (aq .other .geq b (vi 0)).bind fun a =>
 (gV a true Y).bind fun c =>
 fT a true  [.n, .f 2, .f 1] c H fun d =>
 (gB a true (aq .other .leq d (vi 1048576))).bind fun e =>
 (aX a e (vb false)).bind fun g =>
 gS Y Z x4 x5 x6 (vi 0) g H)
 (fX Y Z x4 x5 x6 H) :=
 (ct rfl (lO [1, 1, 0, 1, 2]) (lO [1, 1, 0, 1, 3]) (.tmp 30) (pt rfl 1 Px (by kernel_rfl)) (by kernel_rfl))
theorem l7 : kC Y Z x4 x5 x6 H =
 ld [.n, .f 6] Y H fun a =>
 (aq .other .eql a (vi 0)).bind fun b =>
 nI Y Z x4 x5 x6 b H :=
 (pt rfl 0 tU (pt rfl 0 Pw (by kernel_rfl)))
noncomputable def Fh : OV := bn PP GG FF (lO []) (ls [Y, Z] 146) H mp ca mp
theorem yi {r : Value × AH} (h : (
 ad [.n, .f 0] Y fun a =>
 (ar a H).bind fun c =>
 ld [.n, .f 0] Y H fun d =>
 ld [.n, .f 7] d H fun e =>
 ld [.n, .f 2, .f 1] Y H fun g =>
 (FF eu [e, g] H).bind fun b =>
 bZ (ar a b.2) (ar a H) <|
 kC Y Z (vb false) c b.1 b.2) = some r) : FF bi [Y, Z] H = some r :=
 fo (t := Fh Y Z H) Tryz.func48 (by kernel_rfl) (Eq.trans (pt rfl 1 Sx (by kernel_rfl)) h)
theorem G5 {r : Value × AH} (h : (
 aZ (Value.cells Y).toList H fun b j =>
 aZ (Value.cells Z).toList j fun c a =>
 ld [.f 0] b a fun k =>
 ld [.f 0] c a fun l =>
 (aq .other .eql k l).bind fun d =>
 fT d true  [.f 2] b a fun m =>
 fT d true  [.f 2] c a fun n =>
 (gB d true (aq .other .eql m n)).bind fun o =>
 (aX d o (vb false)).bind fun e =>
 fT e true  [.f 3] b a fun p =>
 fT e true  [.f 3] c a fun q =>
 (gB e true (aq .other .eql p q)).bind fun s =>
 (aX e s (vb false)).bind fun g =>
 fT g true  [.f 1] b a fun t =>
 fT g true  [.f 1] c a fun w =>
 (gE g true a (FF fG [t, w] a)).bind fun i =>
 (aX g i.1 (vb false)).bind fun y =>
 some (y, i.2)) = some r) : FF sC [Y, Z] H = some r :=
 fo Tryz.func49 (by kernel_rfl) h
theorem G9 {r : Value × AH} (h : (
 aZ [(vi 0), (.slice none 0 0), (vi 0), (vw 0)] H fun a b =>
 ax Z
 (ldN 4 [.n, .f 17] Y b fun e =>
 (cD 4 a e b).bind fun c =>
 (aA 4 a c).bind fun g => some (g, c))
 (gC [(0, 1), (1, 1), (2, 1), (3, 1)] [(vi 0), (.slice none 0 0), (vi 0), (vw 0)] [] fun i =>
 (cD 4 a i b).bind fun d =>
 (aA 4 a d).bind fun j => some (j, d))) = some r) : FF od [Y, Z] H = some r :=
 fo Tryz.func50 (by kernel_rfl) h
theorem AB {r : Value × AH} (h : (
 ld [.n, .f 1] Y H fun a =>
 mh a fun b =>
 some (b, H)) = some r) : FF jV [Y] H = some r :=
 fo Tryz.func51 (by kernel_rfl) h
theorem ry {r : Value × AH} (h : (
 (aq .other .geq Z (vi 0)).bind fun a =>
 (gV a true Z).bind fun b =>
 (gV a true Y).bind fun c =>
 fT a true  [.n, .f 10] c H fun d =>
 (BN (yv a) true (mh d some) (some undef)).bind fun e =>
 (gB a true (aq .other .lss b e)).bind fun g =>
 (aX a g (vb false)).bind fun i =>
 some (i, H)) = some r) : FF fJ [Y, Z] H = some r :=
 fo Tryz.func52 (by kernel_rfl) h
theorem xJ {r : Value × AH} (h : (
 aZ (Value.cells x2).toList H fun a b =>
 (aA 3 a b).bind fun e =>
 (FF dp [Y, Z, (vi 1), e] b).bind fun c =>
 (aA 3 a c.2).bind fun f =>
 (FF fh [Y, f] c.2).bind fun d =>
 some (d.1, d.2)) = some r) : FF cU [Y, Z, x2] H = some r :=
 fo Tryz.func53 (by kernel_rfl) h
theorem yu {r : Value × AH} (h : (
 aZ [(vi 0), (vi 0), (vi 0)] H fun a b =>
 ld [.n, .f 1] Y b fun d =>
 gC [(0, 1), (1, 1), (2, 1)] [(vi 0), (vi 0), (vi 0)] [(0, Z), (1, d), (2, x2)] fun e =>
 (cD 3 a e b).bind fun c =>
 (aA 3 a c).bind fun g => some (g, c)) = some r) : FF cX [Y, Z, x2] H = some r :=
 fo Tryz.func54 (by kernel_rfl) h
theorem jj {r : Value × AH} (h : (
 ld [.n, .f 2] Y H fun a =>
 mh a fun b =>
 (cH (some .u64) b).bind fun c =>
 (aq .other .rem Z c).bind fun d =>
 (cH (some .i64) d).bind fun e =>
 some (e, H)) = some r) : FF bP [Y, Z] H = some r :=
 fo Tryz.func55 (by kernel_rfl) h
theorem xL {r : Value × AH} (h : (
 aZ (Value.cells x2).toList H fun b a =>
 (aA 3 b a).bind fun c =>
 (FF dp [Y, Z, (vi 5), c] a).bind fun d =>
 some (Value.tuple #[], d.2)) = some r) : FF i5 [Y, Z, x2] H = some r :=
 fo Tryz.func56 (by kernel_rfl) h
theorem Fa {r : Value × AH} (h : (
 aZ (Value.cells Y).toList H fun a i =>
 aZ [(vi 0), (.slice none 0 0), (vi 0), (vw 0)] i fun b c =>
 ld [.f 1] a c fun j =>
 (FF TK [j] c).bind fun d =>
 st 1 [.f 1] a d.1 d.2 fun e =>
 (aA 4 a e).bind fun k =>
 (cD 4 b k e).bind fun g =>
 (aA 4 b g).bind fun l => some (l, g)) = some r) : FF pW [Y] H = some r :=
 fo Tryz.func60 (by kernel_rfl) h
theorem Cf {r : Value × AH} (h : (
 aZ [(vi 0), (vi 0), (vi 0)] H fun a c =>
 gC [(0, 1), (1, 1), (2, 1)] [(vi 0), (vi 0), (vi 0)] [(0, (vi 10)), (1, Y), (2, Z)] fun d =>
 (cD 3 a d c).bind fun b =>
 (aA 3 a b).bind fun e => some (e, b)) = some r) : FF jb [Y, Z] H = some r :=
 fo Tryz.func61 (by kernel_rfl) h
theorem xM {r : Value × AH} (h : (
 aZ (Value.cells x2).toList H fun b c =>
 (aA 3 b c).bind fun d =>
 (FF fh [Y, d] c).bind fun a =>
 (aq .other .neq a.1 x3).bind fun e =>
 ax e
 ((aA 3 b a.2).bind fun f =>
 (FF dp [Y, Z, (vi 4), f] a.2).bind fun g =>
 some ((vb false), g.2))
 ((aA 3 b a.2).bind fun i =>
 (FF i6 [Y, Z, i, x4] a.2).bind fun j =>
 some ((vb true), j.2))) = some r) : FF fi [Y, Z, x2, x3, x4] H = some r :=
 fo Tryz.func62 (by kernel_rfl) h
theorem Bu {r : Value × AH} (h : (
 aZ [(vi 0), (vi 0), (vi 0)] H fun a c =>
 gC [(0, 1), (1, 1), (2, 1)] [(vi 0), (vi 0), (vi 0)] [(0, (vi 8)), (1, Y)] fun d =>
 (cD 3 a d c).bind fun b =>
 (aA 3 a b).bind fun e => some (e, b)) = some r) : FF j1 [Y] H = some r :=
 fo Tryz.func63 (by kernel_rfl) h
theorem AF {r : Value × AH} (h : (
 aZ (Value.cells Y).toList H fun a l =>
 ld [.f 0] a l fun m =>
 (FF fj [m, (vi 1), (vi 4)] l).bind fun b =>
 fT b.1 true  [.f 1] a b.2 fun n =>
 (gE b.1 true b.2 (FF fj [n, (vi 1), (vi 4)] b.2)).bind fun c =>
 (aX b.1 c.1 (vb false)).bind fun g =>
 fT g true  [.f 2] a c.2 fun o =>
 (gE g true c.2 (FF fj [o, (vi 1), (vi 6)] c.2)).bind fun d =>
 (aX g d.1 (vb false)).bind fun i =>
 fT i true  [.f 3] a d.2 fun p =>
 (gE i true d.2 (FF fj [p, (vi 0), (vi 40)] d.2)).bind fun e =>
 (aX i e.1 (vb false)).bind fun j =>
 fT j true  [.f 4] a e.2 fun q =>
 (gB j true (aq .other .geq q (vw 1))).bind fun s =>
 (aX j s (vb false)).bind fun k =>
 fT k true  [.f 4] a e.2 fun t =>
 (gB k true (aq .other .leq t (vw 4611686018427387904))).bind fun w =>
 (aX k w (vb false)).bind fun y =>
 some (y, e.2)) = some r) : FF mY [Y] H = some r :=
 fo Tryz.func64 (by kernel_rfl) h
theorem JL (H : AH) {r : Value × AH} (h : (
 B1 H fun a b =>
 gC [(0, 1), (1, 1)] [(.map none), (.slice none 0 0)] [(0, a)] fun c =>
 aZ (Value.cells c).toList b fun d e =>
 some (d, e)) = some r) : FF vW [] H = some r :=
 fo Tryz.func65 (by kernel_rfl) h
theorem EP {r : Value × AH} (h : (
 (ii [Z, (vi 1)]).bind fun a =>
 (ju [a, (vi 4)]).bind fun b =>
 B1 H fun c d =>
 gC [(0, 1), (1, 1), (2, 1), (3, 1), (4, 1)] [(.pointer none), (vi 0), (.map none), Value.nilFunc, Value.nilFunc] [(0, Y), (1, b), (2, c), (3, (.func (.func bB) #[(vi 9)] #[])), (4, (.func (.func bB) #[(vi 14)] #[]))] fun e =>
 aZ (Value.cells e).toList d fun f g =>
 some (f, g)) = some r) : FF pT [Y, Z] H = some r :=
 fo Tryz.func66 (by kernel_rfl) h
theorem FJ {r : Value × AH} (h : (
 (ii [Z, (vi 1)]).bind fun a =>
 (ju [a, (vi 4)]).bind fun b =>
 (ii [x2, (vi 1)]).bind fun c =>
 (ju [c, (vi 4)]).bind fun d =>
 gC [(0, 1), (1, 1), (2, 1)] [(.pointer none), (vi 0), (vi 0)] [(0, Y), (1, b), (2, d)] fun e =>
 aZ (Value.cells e).toList H fun f g =>
 some (f, g)) = some r) : FF p0 [Y, Z, x2] H = some r :=
 fo Tryz.func67 (by kernel_rfl) h
theorem Hu {r : Value × AH} (h : (
 (ii [Z, (vi 1)]).bind fun a =>
 (ju [a, (vi 6)]).bind fun b =>
 B1 H fun c d =>
 B1 d fun e f =>
 gC [(0, 1), (1, 1), (2, 1), (3, 1)] [(.pointer none), (vi 0), (.map none), (.map none)] [(0, Y), (1, b), (2, c), (3, e)] fun g =>
 aZ (Value.cells g).toList f fun i j =>
 some (i, j)) = some r) : FF sE [Y, Z] H = some r :=
 fo Tryz.func68 (by kernel_rfl) h
theorem Gw {r : Value × AH} (h : (
 aZ (Value.cells Y).toList H fun c b =>
 ld [.f 0] c b fun d =>
 ld [.f 3] c b fun e =>
 (FF pX [d, e] b).bind fun a =>
 B1 a.2 fun g i =>
 B1 i fun j k =>
 gC [(0, 1), (1, 1), (2, 1), (3, 1), (4, 1), (5, 1), (6, 1), (7, 1), (8, 3)] [Value.nilFunc, Value.nilFunc, Value.nilFunc, (vw 0), (vw 0), (vi 0), (.map none), (.map none), (vb false), (vi 0), (vw 0)] [(0, (.func (.func sF) #[a.1] #[])), (1, (.func (.func us) #[a.1] #[])), (2, (.func (.func ur) #[a.1] #[])), (6, g), (7, j)] fun l =>
 aZ (Value.cells l).toList k fun m n =>
 some (m, n)) = some r) : FF sA [Y] H = some r :=
 fo Tryz.func69 (by kernel_rfl) h
theorem yd {r : Value × AH} (h : (
 (ii [Z, (vi 1)]).bind fun a =>
 (ju [a, (vi 4)]).bind fun b =>
 gC [(0, 1), (1, 1), (2, 1), (3, 1)] [(.pointer none), (vi 0), (.slice none 0 0), (.slice none 0 0)] [(0, Y), (1, b)] fun c =>
 aZ (Value.cells c).toList H fun d e =>
 some (d, e)) = some r) : FF lU [Y, Z] H = some r :=
 fo Tryz.func70 (by kernel_rfl) h
theorem yf {r : Value × AH} (h : (
 (ii [Z, (vi 1)]).bind fun a =>
 (ju [a, (vi 4)]).bind fun b =>
 (ii [x2, (vi 1)]).bind fun c =>
 (ju [c, (vi 4)]).bind fun d =>
 gC [(0, 1), (1, 1), (2, 1)] [(.pointer none), (vi 0), (vi 0)] [(0, Y), (1, b), (2, d)] fun e =>
 aZ (Value.cells e).toList H fun f g =>
 some (f, g)) = some r) : FF lW [Y, Z, x2] H = some r :=
 fo Tryz.func71 (by kernel_rfl) h
theorem AQ {r : Value × AH} (h : (
 (ii [Z, (vi 1)]).bind fun a =>
 (ju [a, (vi 6)]).bind fun b =>
 gC [(0, 1), (1, 1), (2, 1), (3, 1), (4, 1), (5, 1)] [(.pointer none), (vi 0), (.slice none 0 0), (.slice none 0 0), (.slice none 0 0), (.slice none 0 0)] [(0, Y), (1, b)] fun c =>
 aZ (Value.cells c).toList H fun d e =>
 some (d, e)) = some r) : FF m5 [Y, Z] H = some r :=
 fo Tryz.func72 (by kernel_rfl) h
theorem AP {r : Value × AH} (h : (
 aZ (Value.cells Y).toList H fun b a =>
 ld [.f 0] b a fun d =>
 ld [.f 3] b a fun e =>
 (FF TH [d, e] a).bind fun c =>
 gC [(0, 1), (1, 1), (2, 1), (3, 1), (4, 1), (5, 1), (6, 1), (7, 1), (8, 1)] [(.pointer none), (vw 0), (vw 0), (vi 0), (.slice none 0 0), (.slice none 0 0), (vb false), (vi 0), (vw 0)] [(0, c.1)] fun g =>
 aZ (Value.cells g).toList c.2 fun i j =>
 some (i, j)) = some r) : FF m0 [Y] H = some r :=
 fo Tryz.func73 (by kernel_rfl) h
theorem AL {r : Value × AH} (h : (
 (aq .other .lss Y (vw 1)).bind fun a =>
 (gV a false Y).bind fun d =>
 (gB a false (aq .other .gtr d (vw 4611686018427387904))).bind fun e =>
 (aX a (vb true) e).bind fun b =>
 (gV b false Z).bind fun f =>
 (gB b false (aq .other .lss f (vi 1))).bind fun g =>
 (aX b (vb true) g).bind fun c =>
 (gV c false Z).bind fun i =>
 (gB c false (aq .other .gtr i (vi 65536))).bind fun j =>
 (aX c (vb true) j).bind fun k =>
 ax k
 (some (Value.tuple #[(vw 0), (vb false)], H))
 ((cH (some .u64) Z).bind fun l =>
 (aq .other .quo Y l).bind fun m =>
 (ii [m, (vw 1)]).bind fun n =>
 some (Value.tuple #[n, (vb true)], H))) = some r) : FF jW [Y, Z] H = some r :=
 fo Tryz.func74 (by kernel_rfl) h
theorem kL {r : Value × AH} (h : (
 aZ (Value.cells x2).toList H fun b d =>
 ld [.n, .f 10] Y d fun j =>
 mh j fun e =>
 ld [.n, .f 0] Y d fun k =>
 gC [(0, 1), (1, 1), (2, 1)] [(vi 0), (vi 0), (vi 0)] [(0, (vi 13)), (1, e)] fun l =>
 (FF fW [k, Z, l] d).bind fun a =>
 ad [.n, .f 10] Y fun g =>
 (ar g a.2).bind fun m =>
 (aA 3 b a.2).bind fun o =>
 ld [.n, .f 0] Y a.2 fun p =>
 ld [.f 1] b a.2 fun q =>
 (FF sG [p, e, q] a.2).bind fun c =>
 bZ (ar g c.2) (ar g a.2) <|
 bZ (aA 3 b c.2) (aA 3 b a.2) <|
 gC [(0, 3), (3, 1)] [(vi 0), (vi 0), (vw 0), (.pointer none)] [(0, o), (1, c.1)] fun s =>
 E5 1 4 [(vi 0), (vi 0), (vw 0), (.pointer none)] [(0, s)] c.2 fun t w =>
 (f3 4 32 m t w).bind fun i =>
 st 1 [.n, .f 10] Y i.1 i.2 fun y =>
 some (e, y)) = some r) : FF dT [Y, Z, x2] H = some r :=
 fo Tryz.func75 (by kernel_rfl) h
theorem uI {r : Value × AH} (h : (
 aZ (Value.cells x2).toList H fun o c =>
 ld [.n, .f 10] Y c fun q =>
 mh q fun e =>
 ad [.n, .f 5] Y fun g =>
 (ar g c).bind fun s =>
 (FF cr [(vi 13), e, (vi 0)] c).bind fun i =>
 bZ (ar g i.2) (ar g c) <|
 (FF cm [s, Z, (vi 6), i.1] i.2).bind fun j =>
 ld [.n, .f 10] Y j.2 fun t =>
 (aA 3 o j.2).bind fun w =>
 E5 1 3 [(vi 0), (vi 0), (vw 0)] [(0, w)] j.2 fun y d =>
 (f3 3 24 t y d).bind fun a =>
 ad [.n, .f 11] Y fun b =>
 (ar b a.2).bind fun z =>
 bZ (ar b d) (ar b a.2) <|
 ad [.n, .f 5] Y fun k =>
 (ar k a.2).bind fun A =>
 bZ (ar k d) (ar k a.2) <|
 ad [.f 1] o fun l =>
 (ar l a.2).bind fun B =>
 bZ (ar l d) (ar l a.2) <|
 (FF m6 [A, e, B] a.2).bind fun m =>
 bZ (ar b m.2) (ar b a.2) <|
 E5 1 1 [(.pointer none)] [(0, m.1)] m.2 fun C D =>
 (f3 1 8 z C D).bind fun p =>
 st 1 [.n, .f 10] Y a.1 p.2 fun E =>
 st 1 [.n, .f 11] Y p.1 E fun G =>
 some (e, G)) = some r) : FF gK [Y, Z, x2] H = some r :=
 fo Tryz.func76 (by kernel_rfl) h
theorem ti {r : Value × AH} (h : (
 (aq .other .lss x4 (vi 0)).bind fun a =>
 (gV a false x4).bind fun g =>
 (gB a false (aq .other .gtr g (vi 1048576))).bind fun i =>
 (aX a (vb true) i).bind fun b =>
 (gV b false x5).bind fun j =>
 (gB b false (aq .other .lss j (vi 0))).bind fun k =>
 (aX b (vb true) k).bind fun c =>
 (gV c false x5).bind fun l =>
 (gB c false (aq .other .geq l (vi 4294967296))).bind fun m =>
 (aX c (vb true) m).bind fun o =>
 ax o
 (some ((vb false), H))
 (ad [.n, .f 0] Y fun d =>
 (ar d H).bind fun p =>
 (FF jb [x2, x3] H).bind fun e =>
 bZ (ar d e.2) (ar d H) <|
 (aq .other .add x4 (vi 1)).bind fun q =>
 (cH (some .u64) q).bind fun s =>
 (aq .other .shl s (vw 32)).bind fun t =>
 (cH (some .u64) x5).bind fun w =>
 (aq .other .or t w).bind fun y =>
 (FF dB [p, Z, e.1, y] e.2).bind fun z =>
 some ((vb true), z.2))) = some r) : FF ge [Y, Z, x2, x3, x4, x5] H = some r :=
 fo Tryz.func77 (by kernel_rfl) h
theorem wn {r : Value × AH} (h : (
 (aq .other .lss x4 (vi 0)).bind fun b =>
 (gV b false x4).bind fun g =>
 (gB b false (aq .other .gtr g (vi 1048576))).bind fun i =>
 (aX b (vb true) i).bind fun c =>
 (gV c false x5).bind fun j =>
 (gB c false (aq .other .lss j (vi 0))).bind fun k =>
 (aX c (vb true) k).bind fun a =>
 (gV a false x5).bind fun l =>
 (gB a false (cH (some .u64) l)).bind fun m =>
 (gB a false (aq .other .geq m (vw 4294967296))).bind fun o =>
 (aX a (vb true) o).bind fun p =>
 ax p
 (some ((vb false), H))
 (ad [.n, .f 0] Y fun d =>
 (ar d H).bind fun q =>
 (FF cr [(vi 10), x2, x3] H).bind fun e =>
 bZ (ar d e.2) (ar d H) <|
 (aq .other .add x4 (vi 1)).bind fun s =>
 (cH (some .u64) s).bind fun t =>
 (aq .other .mul t (vw 4294967296)).bind fun w =>
 (cH (some .u64) x5).bind fun y =>
 (aq .other .add w y).bind fun z =>
 (FF eb [q, Z, e.1, z] e.2).bind fun A =>
 some ((vb true), A.2))) = some r) : FF iv [Y, Z, x2, x3, x4, x5] H = some r :=
 fo Tryz.func78 (by kernel_rfl) h
theorem J1 {r : Value × AH} (h : (
 aZ [(vi 0), (vi 0), (vi 0)] H fun a c =>
 gC [(0, 1), (1, 1), (2, 1)] [(vi 0), (vi 0), (vi 0)] [(0, Y), (1, Z), (2, x2)] fun d =>
 (cD 3 a d c).bind fun b =>
 (aA 3 a b).bind fun e => some (e, b)) = some r) : FF cr [Y, Z, x2] H = some r :=
 fo Tryz.func84 (by kernel_rfl) h
theorem wl {r : Value × AH} (h : (
 (FF og [x2, x3] H).bind fun b =>
 (af b.1 0).bind fun g =>
 (af b.1 1).bind fun a =>
 (gV a true Y).bind fun i =>
 EM a true  [.n, .f 0] i fun d =>
 (gB a true (ar d b.2)).bind fun j =>
 (gV a true Z).bind fun k =>
 (gV a true Y).bind fun l =>
 fT a true  [.n, .f 1] l b.2 fun m =>
 (gE a true b.2 (FF cr [(vi 11), m, (vi 0)] b.2)).bind fun c =>
 bZ (ar d c.2) (ar d b.2) <|
 (gV a true x2).bind fun o =>
 (gV a true g).bind fun p =>
 (gE a true c.2 (FF gv [j, k, c.1, o, p] c.2)).bind fun e =>
 (aX a e.1 (vb false)).bind fun q =>
 some (q, e.2)) = some r) : FF iu [Y, Z, x2, x3] H = some r :=
 fo Tryz.func86 (by kernel_rfl) h
theorem p8 {r : Value × AH} (h : (
 ld [.n, .f 11] Y H fun a =>
 (eD .int a Z x2 H).bind fun b =>
 some (Value.tuple #[], b)) = some r) : FF g8 [Y, Z, x2] H = some r :=
 fo Tryz.func87 (by kernel_rfl) h
theorem sU {r : Value × AH} (h : (
 ld [.n, .f 12] Y H fun b =>
 E5 2 1 [(vi 0)] [(0, Z), (1, x2)] H fun c d =>
 (f3 1 8 b c d).bind fun a =>
 st 1 [.n, .f 12] Y a.1 a.2 fun e =>
 some (Value.tuple #[], e)) = some r) : FF i9 [Y, Z, x2] H = some r :=
 fo Tryz.func88 (by kernel_rfl) h
noncomputable def MD (p : List Nat) : Code := Code.sub (ce Tryz.f89) p
noncomputable def Ac : KK := fE PP (Tryz.f89).results.toList
noncomputable def SR : KK := CQ (MD [1]) Ac ca Ac
noncomputable def wO : OV := SR (ls [Y, Z, u, u, x4, x5] 45) H
noncomputable def Jx : KK := CQ (MD [1, 1]) Ac ca Ac
noncomputable def YM : KK := jv K8 Jx
noncomputable def pn : OV := Jx (ls [Y, Z, u, u, x4, x5] 45) H
noncomputable def YN : KX := BX 0 YM ca
theorem yL : az 2251799813685199 Ac := rf
theorem SS : az K8 SR := rc yL aH yL
theorem GW : az K8 Jx := rc yL aH yL
theorem ST : ∀ i, az K8 (YN i) := rb (cd GW) aH
theorem zB : pn Y Z x4 x5 H =
 (FF jG [Y, Z] H).bind fun a =>
 (af a.1 0).bind fun c =>
 (af a.1 1).bind fun d =>
 (cD 4 x4 c a.2).bind fun b =>
 (aA 4 x4 b).bind fun e => some (Value.tuple #[e, d], b) :=
 (by kernel_rfl)
theorem zA : wO Y Z x4 x5 H =
 ld [.n, .f 2, .f 2] Y H fun i =>
 (aq .other .lss i (vi 1)).bind fun a =>
 (gV a false Y).bind fun j =>
 fT a false  [.n, .f 2, .f 2] j H fun k =>
 (gB a false (aq .other .gtr k (vi 65536))).bind fun l =>
 (aX a (vb true) l).bind fun m =>
 ax m
 ((FF iS [Y, Z, (vi 3)] H).bind fun c =>
 (af c.1 0).bind fun o =>
 (af c.1 1).bind fun p =>
 (cD 4 x4 o c.2).bind fun e =>
 (aA 4 x4 e).bind fun q => some (Value.tuple #[q, p], e))
 (ld [.n, .f 2, .f 1] Y H fun s =>
 (aq .other .lss s (vi 0)).bind fun b =>
 (gV b false Y).bind fun t =>
 fT b false  [.n, .f 2, .f 1] t H fun w =>
 (gB b false (aq .other .gtr w (vi 1048576))).bind fun y =>
 (aX b (vb true) y).bind fun z =>
 ax z
 ((FF iS [Y, Z, (vi 5)] H).bind fun d =>
 (af d.1 0).bind fun A =>
 (af d.1 1).bind fun B =>
 (cD 4 x4 A d.2).bind fun g =>
 (aA 4 x4 g).bind fun C => some (Value.tuple #[C, B], g))
 (pn Y Z x4 x5 H)) :=
 (pt rfl 0 GW (bt rfl (MD [1, 0, 4]) 0 ST (by kernel_rfl)))
noncomputable def Rx : OV := bn PP GG FF (MD []) (ls [Y, Z] 49) H Ac ca Ac
theorem GB {r : Value × AH} (h : (
 aZ [(vi 0), (.slice none 0 0), (vi 0), (vw 0)] H fun a b =>
 wO Y Z a (vb false) b) = some r) : FF lQ [Y, Z] H = some r :=
 fo (t := Rx Y Z H) Tryz.func89 (by kernel_rfl) (Eq.trans (pt rfl 0 SS (by kernel_rfl)) h)
theorem wz {r : Value × AH} (h : (
 aZ [(vi 0), (.slice none 0 0), (vi 0), (vw 0)] H fun a g =>
 (FF gb [Y] g).bind fun b =>
 ax b.1
 ((FF dj [Y, Z, (vi 5)] b.2).bind fun c =>
 (af c.1 0).bind fun i =>
 (af c.1 1).bind fun j =>
 (cD 4 a i c.2).bind fun e =>
 (aA 4 a e).bind fun k => some (Value.tuple #[k, j], e))
 ((FF cV [Y, Z] b.2).bind fun d =>
 (af d.1 0).bind fun l =>
 (af d.1 1).bind fun m =>
 (cD 4 a l d.2).bind fun f =>
 (aA 4 a f).bind fun n => some (Value.tuple #[n, m], f))) = some r) : FF eg [Y, Z] H = some r :=
 fo Tryz.func90 (by kernel_rfl) h
noncomputable def ME (p : List Nat) : Code := Code.sub (ce Tryz.f91) p
noncomputable def Ad : KK := fE PP (Tryz.f91).results.toList
noncomputable def SU : KK := CQ (ME [1]) Ad ca Ad
noncomputable def oY : OV := SU (ls [Y, Z, u, u, x4, x5] 53) H
noncomputable def Jy : KK := CQ (ME [1, 1]) Ad ca Ad
noncomputable def YO : KK := jv K6 Jy
noncomputable def oZ : OV := Jy (ls [Y, Z, u, u, x4, x5] 53) H
noncomputable def YP : KX := BX 0 YO ca
theorem yM : az 576460752303423439 Ad := rf
theorem SV : az K6 SU := rc yM aH yM
theorem GX : az K6 Jy := rc yM aH yM
theorem SW : ∀ i, az K6 (YP i) := rb (cd GX) aH
theorem ta : oZ Y Z x4 x5 H =
 (FF cJ [Y, Z] H).bind fun a =>
 (af a.1 0).bind fun c =>
 (af a.1 1).bind fun d =>
 (cD 4 x4 c a.2).bind fun b =>
 (aA 4 x4 b).bind fun e => some (Value.tuple #[e, d], b) :=
 (by kernel_rfl)
theorem s9 : oY Y Z x4 x5 H =
 (FF gb [Y] H).bind fun a =>
 ax a.1
 ((FF dj [Y, Z, (vi 1)] a.2).bind fun d =>
 (af d.1 0).bind fun l =>
 (af d.1 1).bind fun m =>
 (cD 4 x4 l d.2).bind fun i =>
 (aA 4 x4 i).bind fun o => some (Value.tuple #[o, m], i))
 (ld [.n, .f 2, .f 2] Y a.2 fun p =>
 (aq .other .lss p (vi 1)).bind fun b =>
 (gV b false Y).bind fun q =>
 fT b false  [.n, .f 2, .f 2] q a.2 fun s =>
 (gB b false (aq .other .gtr s (vi 65536))).bind fun t =>
 (aX b (vb true) t).bind fun w =>
 ax w
 ((FF dj [Y, Z, (vi 4)] a.2).bind fun e =>
 (af e.1 0).bind fun y =>
 (af e.1 1).bind fun z =>
 (cD 4 x4 y e.2).bind fun j =>
 (aA 4 x4 j).bind fun A => some (Value.tuple #[A, z], j))
 (ld [.n, .f 2, .f 3] Y a.2 fun B =>
 (aq .other .lss B (vi 1)).bind fun c =>
 (gV c false Y).bind fun C =>
 fT c false  [.n, .f 2, .f 3] C a.2 fun D =>
 (gB c false (aq .other .gtr D (vi 8))).bind fun E =>
 (aX c (vb true) E).bind fun G =>
 ax G
 ((FF dj [Y, Z, (vi 1)] a.2).bind fun g =>
 (af g.1 0).bind fun I =>
 (af g.1 1).bind fun J =>
 (cD 4 x4 I g.2).bind fun k =>
 (aA 4 x4 k).bind fun K => some (Value.tuple #[K, J], k))
 (oZ Y Z x4 x5 a.2))) :=
 (pt rfl 0 GX (bt rfl (ME [1, 0, 4]) 0 SW (by kernel_rfl)))
noncomputable def Fw : OV := bn PP GG FF (ME []) (ls [Y, Z] 57) H Ad ca Ad
theorem yl {r : Value × AH} (h : (
 aZ [(vi 0), (.slice none 0 0), (vi 0), (vw 0)] H fun a b =>
 oY Y Z a (vb false) b) = some r) : FF fp [Y, Z] H = some r :=
 fo (t := Fw Y Z H) Tryz.func91 (by kernel_rfl) (Eq.trans (pt rfl 0 SV (by kernel_rfl)) h)
noncomputable def SX (p : List Nat) : Code := Code.sub (ce Tryz.f92) p
noncomputable def Ae : KK := fE PP (Tryz.f92).results.toList
noncomputable def SY : KK := CQ (SX [1, 1]) Ae ca Ae
noncomputable def l6 : OV := SY (ls [Y, u, u, u, x4, x5] 15) H
noncomputable def S0 : KK := CQ (SX [1, 1, 1]) Ae ca Ae
noncomputable def iG : OV := S0 (ls [u, u, u, u, x4, x5] 15) H
theorem yN : az 2097135 Ae := rf
theorem SZ : az 2097102 SY := rc yN aH yN
theorem S2 : az 2097103 S0 := rc yN aH yN
theorem jy : iG x4 x5 H =
 some (x5, H) :=
 (by kernel_rfl)
theorem pc : l6 Y x4 x5 H =
 (aq .other .lss x5 (vi 0)).bind fun a =>
 ax a
 (ld [.n, .f 1] Y H fun b =>
 (aq .other .add x5 b).bind fun c =>
 iG x4 c H)
 (iG x4 x5 H) :=
 (pt rfl 0 S2 (by kernel_rfl))
noncomputable def yh : OV := bn PP GG FF (SX []) (ls [Y, Z] 19) H Ae ca Ae
theorem sW {r : Value × AH} (h : (
 ld [.n, .f 1] Y H fun a =>
 (aq .other .rem Z a).bind fun b =>
 l6 Y (vi 0) b H) = some r) : FF eu [Y, Z] H = some r :=
 fo (t := yh Y Z H) Tryz.func92 (by kernel_rfl) (Eq.trans (pt rfl 1 SZ (by kernel_rfl)) h)
theorem wo {r : Value × AH} (h : (
 gC [(0, 1), (1, 1), (2, 1), (3, 1)] [(vi 0), (.slice none 0 0), (vi 0), (vw 0)] [(0, x2)] fun b =>
 st 4 [.n, .f 17] Y b H fun a =>
 ld [.n, .f 0] Y a fun c =>
 ld [.n, .f 1] Y a fun d =>
 ldN 4 [.n, .f 17] Y a fun e =>
 (FF TI [c, Z, d, e] a).bind fun g =>
 some (Value.tuple #[], g.2)) = some r) : FF bC [Y, Z, x2] H = some r :=
 fo Tryz.func93 (by kernel_rfl) h
noncomputable def S3 (p : List Nat) : Code := Code.sub (ce Tryz.f94) p
noncomputable def Af : KK := fE PP (Tryz.f94).results.toList
noncomputable def S4 : KK := CQ (S3 [1, 1, 1]) Af ca Af
noncomputable def Ui : OV := S4 (ls [Y, u, x2, x3, u, u, x6] 88) H
noncomputable def S6 : KK := CQ (S3 [1, 1, 1, 1]) Af ca Af
noncomputable def A5 : OV := S6 (ls [Y, u, x2, x3] 91) H
theorem yO : az 39614081257132168796771975155 Af := rf
theorem S5 : az 39614081257132168796771975090 S4 := rc yO aH yO
theorem S7 : az 39614081257132168796771975154 S6 := rc yO aH yO
theorem C9 : A5 Y x2 x3 H =
 ld [.n, .f 7] Y H fun b =>
 (aq .other .add b (vi 1)).bind fun c =>
 st 1 [.n, .f 7] Y c H fun a =>
 ld [.n, .f 7] Y a fun d =>
 ld [.n, .f 0] Y a fun e =>
 ld [.n, .f 7] e a fun g =>
 ld [.n, .f 2] g a fun i =>
 (aq .other .geq d i).bind fun j =>
 some (Value.tuple #[(vb false), j], a) :=
 (by kernel_rfl)
theorem q9 : Ui Y x2 x3 x6 H =
 (mD .not x6).bind fun a =>
 (gV a true Y).bind fun b =>
 fT a true  [.n, .f 8] b H fun c =>
 (gB a true (aq .other .lss c (vi 0))).bind fun d =>
 (aX a d (vb false)).bind fun e =>
 ax e
 (ld [.n, .f 7] Y H fun g =>
 st 1 [.n, .f 8] Y g H fun i =>
 A5 Y x2 x3 i)
 (A5 Y x2 x3 H) :=
 (pt rfl 0 S7 (by kernel_rfl))
noncomputable def rTs : OV := bn PP GG FF (S3 []) (ls [Y] 94) H Af ca Af
theorem Uj {r : Value × AH} (h : (
 ad [.n, .f 0] Y fun d =>
 (ar d H).bind fun j =>
 ad [.n, .f 7] j fun e =>
 (ar e H).bind fun k =>
 ad [.n, .f 1] Y fun g =>
 (ar g H).bind fun l =>
 ld [.n, .f 0] Y H fun m =>
 ld [.n, .f 7] m H fun o =>
 ld [.n, .f 2, .f 1] Y H fun p =>
 (FF eu [o, p] H).bind fun a =>
 bZ (ar d a.2) (ar d H) <|
 bZ (ar e a.2) (ar e H) <|
 bZ (ar g a.2) (ar g H) <|
 ad [.n, .f 7] Y fun i =>
 (ar i a.2).bind fun q =>
 bZ (ar i H) (ar i a.2) <|
 (FF jL [k, l, a.1, q] a.2).bind fun b =>
 (af b.1 0).bind fun s =>
 (af b.1 1).bind fun w =>
 (af b.1 2).bind fun c =>
 (gV c true s).bind fun y =>
 (gV c true Y).bind fun z =>
 fT c true  [.n, .f 2, .f 1] z b.2 fun A =>
 (gB c true (aq .other .eql y A)).bind fun B =>
 (aX c B (vb false)).bind fun C =>
 ax C
 (st 1 [.n, .f 9] Y (vb true) b.2 fun D =>
 st 1 [.n, .f 10] Y w D fun E =>
 some (Value.tuple #[(vb true), (vb false)], E))
 (Ui Y (vb false) (vb false) c b.2)) = some r) : FF AI [Y] H = some r :=
 fo (t := rTs Y H) Tryz.func94 (by kernel_rfl) (Eq.trans (pt rfl 2 S5 (by kernel_rfl)) h)
theorem uJ {r : Value × AH} (h : (
 ad [.n, .f 0] Y fun a =>
 (ar a H).bind fun d =>
 (FF cr [(vi 8), x2, (vi 0)] H).bind fun b =>
 bZ (ar a b.2) (ar a H) <|
 (FF gv [d, Z, b.1, (vw 0), (vw 1)] b.2).bind fun c =>
 some (c.1, c.2)) = some r) : FF gL [Y, Z, x2] H = some r :=
 fo Tryz.func95 (by kernel_rfl) h
theorem rz {r : Value × AH} (h : (
 ad [.n, .f 0] Y fun a =>
 (ar a H).bind fun c =>
 (FF cr [(vi 8), x2, (vi 0)] H).bind fun b =>
 bZ (ar a b.2) (ar a H) <|
 (FF eb [c, Z, b.1, (vw 0)] b.2).bind fun d =>
 some (Value.tuple #[], d.2)) = some r) : FF dV [Y, Z, x2] H = some r :=
 fo Tryz.func96 (by kernel_rfl) h
theorem we {r : Value × AH} (h : (
 aZ [(vi 0), (vi 0), (vw 0)] H fun c b =>
 (aq .other .lss x2 (vi 0)).bind fun a =>
 (gV a false x2).bind fun l =>
 (gV a false Y).bind fun m =>
 fT a false  [.n, .f 10] m b fun o =>
 (BN (yv a) false (mh o some) (some undef)).bind fun p =>
 (gB a false (aq .other .geq l p)).bind fun q =>
 (aX a (vb true) q).bind fun s =>
 ax s
 (gC [(0, 1), (1, 1), (2, 1)] [(vi 0), (vi 0), (vw 0)] [] fun t =>
 (cD 3 c t b).bind fun j =>
 (aA 3 c j).bind fun w => some (w, j))
 (ad [.n, .f 5] Y fun d =>
 (ar d b).bind fun y =>
 (FF cr [(vi 13), x2, (vi 0)] b).bind fun e =>
 bZ (ar d e.2) (ar d b) <|
 (FF cm [y, Z, (vi 5), e.1] e.2).bind fun g =>
 ld [.n, .f 10] Y g.2 fun z =>
 ldN 3 [.i 3 x2] z g.2 fun A =>
 (cD 3 c A g.2).bind fun k =>
 (aA 3 c k).bind fun B => some (B, k))) = some r) : FF kz [Y, Z, x2] H = some r :=
 fo Tryz.func97 (by kernel_rfl) h
theorem wu {r : Value × AH} (h : (
 (FF bU [Y] H).bind fun a =>
 ad [.n, .f 1] Y fun c =>
 (ar c a.2).bind fun g =>
 bZ (ar c H) (ar c a.2) <|
 (FF kA [a.1, g] a.2).bind fun d =>
 st 1 [.n, .f 11] Y d.1 d.2 fun e =>
 ld [.n, .f 11] Y e fun i =>
 (FF gu [i] e).bind fun b =>
 (af b.1 0).bind fun k =>
 (af b.1 1).bind fun j =>
 (af b.1 2).bind fun l =>
 some (j, b.2)) = some r) : FF ef [Y] H = some r :=
 fo Tryz.func98 (by kernel_rfl) h
theorem wq {r : Value × AH} (h : (
 ld [.n, .f 0] Y H fun a =>
 ld [.n, .f 11] a H fun b =>
 ld [.n, .f 10] Y H fun c =>
 ld [.i 1 c] b H fun d =>
 some (d, H)) = some r) : FF bU [Y] H = some r :=
 fo Tryz.func99 (by kernel_rfl) h
theorem wi {r : Value × AH} (h : (
 ad [.n, .f 0] Y fun a =>
 (ar a H).bind fun d =>
 ld [.n, .f 1] Y H fun e =>
 (FF cr [(vi 12), e, (vi 0)] H).bind fun b =>
 bZ (ar a b.2) (ar a H) <|
 (FF dU [d, Z, b.1] b.2).bind fun c =>
 some (c.1, c.2)) = some r) : FF iq [Y, Z] H = some r :=
 fo Tryz.func100 (by kernel_rfl) h
theorem Fd {r : Value × AH} (h : (
 (aq .other .rem Y (vw 2305843009213693952)).bind fun b =>
 (aq .other .quo Y (vw 2305843009213693952)).bind fun c =>
 (cH (some .i64) c).bind fun a =>
 (aq .other .gtr a (vi 2)).bind fun d =>
 ax d
 (some (Value.tuple #[(vw 0), (vi (-1)), (vb false)], H))
 (some (Value.tuple #[b, a, (vb true)], H))) = some r) : FF gu [Y] H = some r :=
 fo Tryz.func101 (by kernel_rfl) h
theorem wh {r : Value × AH} (h : (
 (FF gu [Z] H).bind fun b =>
 (af b.1 0).bind fun c =>
 (af b.1 1).bind fun o =>
 (af b.1 2).bind fun p =>
 (aq .other .geq c x2).bind fun a =>
 (gV a true c).bind fun d =>
 (gV a true x2).bind fun e =>
 (gB a true (aq .other .sub d e)).bind fun g =>
 (gV a true Y).bind fun i =>
 fT a true  [.n, .f 2] i b.2 fun j =>
 (gB a true (cH (some .u64) j)).bind fun k =>
 (gB a true (aq .other .geq g k)).bind fun l =>
 (aX a l (vb false)).bind fun m =>
 some (m, b.2)) = some r) : FF ip [Y, Z, x2] H = some r :=
 fo Tryz.func102 (by kernel_rfl) h
noncomputable def DT (p : List Nat) : Code := Code.sub (ce Tryz.f103) p
noncomputable def pr : KK := fE PP (Tryz.f103).results.toList
noncomputable def Lo : KK := CQ (DT [1]) pr ca pr
noncomputable def mG : OV := Lo (ls [Y, Z] 48) H
noncomputable def Lp : KK := CQ (DT [1, 1]) pr ca pr
noncomputable def gf : OV := Lp (ls [Y, Z] 48) H
noncomputable def Wb : KX := BX 0 pr ca
theorem pw : az 1125899906842623 pr := rf
theorem Of : az 1125899906842620 Lo := rc pw aH pw
theorem Og : az 1125899906842620 Lp := rc pw aH pw
theorem Oh : ∀ i, az 1125899906842623 (Wb i) := rb pw aH
theorem qg : gf Y Z H =
 (FF bU [Y] H).bind fun a =>
 ad [.n, .f 1] Y fun c =>
 (ar c a.2).bind fun g =>
 bZ (ar c H) (ar c a.2) <|
 ad [.n, .f 11] Y fun d =>
 (ar d a.2).bind fun i =>
 bZ (ar d H) (ar d a.2) <|
 (FF iu [a.1, g, i, (vi 0)] a.2).bind fun b =>
 ax b.1
 ((FF bC [Y, Z, (vi 0)] b.2).bind fun e =>
 ld [.n, .f 6] Y e.2 fun j =>
 (aq .other .add j (vi 1)).bind fun k =>
 st 1 [.n, .f 6] Y k e.2 fun l =>
 some (Value.tuple #[], l))
 (ld [.n, .f 6] Y b.2 fun m =>
 (aq .other .eql m (vi 9)).bind fun o =>
 ax o
 (st 1 [.n, .f 6] Y (vi 7) b.2 fun p =>
 some (Value.tuple #[], p))
 (st 1 [.n, .f 6] Y (vi 20) b.2 fun q =>
 some (Value.tuple #[], q))) :=
 (bt rfl (DT [1, 1, 4]) 0 Oh (by kernel_rfl))
theorem qf : mG Y Z H =
 ld [.n, .f 6] Y H fun a =>
 (aq .other .eql a (vi 13)).bind fun b =>
 ax b
 (st 1 [.n, .f 13] Y (vw 1) H fun c =>
 gf Y Z c)
 (gf Y Z H) :=
 (pt rfl 0 Og (by kernel_rfl))
noncomputable def AT : OV := bn PP GG FF (DT []) (ls [Y, Z] 48) H pr ca pr
theorem uL {r : Value × AH} (h : (
 st 1 [.n, .f 13] Y (vw 0) H fun a =>
 mG Y Z a) = some r) : FF jM [Y, Z] H = some r :=
 fo (t := AT Y Z H) Tryz.func103 (by kernel_rfl) (Eq.trans (pt rfl 0 Of (by kernel_rfl)) h)
theorem yg {r : Value × AH} (h : (
 aZ (Value.cells x3).toList H fun g a =>
 ad [.n, .f 0] Y fun b =>
 (ar b a).bind fun m =>
 ad [.n, .f 1] Y fun j =>
 (ar j a).bind fun o =>
 (FF ee [Y, x2] a).bind fun d =>
 bZ (ar b d.2) (ar b a) <|
 bZ (ar j d.2) (ar j a) <|
 (FF cr [(vi 16), o, d.1] d.2).bind fun k =>
 bZ (ar b k.2) (ar b a) <|
 (FF cm [m, Z, (vi 6), k.1] k.2).bind fun e =>
 ad [.n, .f 3] Y fun l =>
 (ar l e.2).bind fun p =>
 (FF ee [Y, x2] e.2).bind fun c =>
 bZ (ar l c.2) (ar l e.2) <|
 (aA 3 g c.2).bind fun q =>
 bZ (aA 3 g e.2) (aA 3 g c.2) <|
 st 3 [.i 3 c.1] p q c.2 fun s =>
 some (Value.tuple #[], s)) = some r) : FF lX [Y, Z, x2, x3] H = some r :=
 fo Tryz.func104 (by kernel_rfl) h
theorem uM {r : Value × AH} (h : (
 ld [.n, .f 11] Y H fun b =>
 (FF gu [b] H).bind fun a =>
 (af a.1 0).bind fun c =>
 (af a.1 1).bind fun d =>
 (af a.1 2).bind fun e =>
 some (c, a.2)) = some r) : FF fm [Y] H = some r :=
 fo Tryz.func105 (by kernel_rfl) h
theorem wj {r : Value × AH} (h : (
 ad [.n, .f 0] Y fun a =>
 (ar a H).bind fun e =>
 ad [.n, .f 1] Y fun c =>
 (ar c H).bind fun g =>
 (FF ee [Y, x2] H).bind fun b =>
 bZ (ar a b.2) (ar a H) <|
 bZ (ar c b.2) (ar c H) <|
 (FF cr [(vi 15), g, b.1] b.2).bind fun d =>
 bZ (ar a d.2) (ar a H) <|
 (aq .other .add x2 (vw 1)).bind fun i =>
 (FF eb [e, Z, d.1, i] d.2).bind fun j =>
 some (Value.tuple #[], j.2)) = some r) : FF ir [Y, Z, x2] H = some r :=
 fo Tryz.func106 (by kernel_rfl) h
theorem sO {r : Value × AH} (h : (
 ad [.n, .f 0] Y fun a =>
 (ar a H).bind fun c =>
 (FF cr [(vi 3), (vi 0), (vi 0)] H).bind fun b =>
 bZ (ar a b.2) (ar a H) <|
 (FF jX [c, Z, b.1, (vw 4294967296)] b.2).bind fun d =>
 some (Value.tuple #[], d.2)) = some r) : FF i8 [Y, Z] H = some r :=
 fo Tryz.func107 (by kernel_rfl) h
noncomputable def zK (p : List Nat) : Code := Code.sub (ce Tryz.f108) p
noncomputable def px : KK := fE PP (Tryz.f108).results.toList
noncomputable def Lr : KK := CQ (zK [1]) px ca px
noncomputable def Ug : OV := Lr (ls [Y, Z, u, u, x4] 100) H
noncomputable def DU : KK := CQ (zK [1, 1]) px ca px
noncomputable def Lq : KK := jv K4 DU
noncomputable def oz : OV := DU (ls [u, u, u, u, x4] 100) H
noncomputable def Ls : KK := CQ (zK [1, 0, 1]) Lq ca px
noncomputable def Uh : OV := Ls (ls [Y, Z, u, u, x4, u, u, u, x8] 96) H
noncomputable def Wc : KX := BX 0 Lq ca
theorem py : az K4 px := rf
theorem Oi : az 40564819207303340847894502572012 Lr := rc py aH py
theorem vC : az K4 DU := rc py aH py
theorem Oj : az 40564819207303340847894502571756 Ls := rc (cd vC) aH py
theorem Ok : ∀ i, az K4 (Wc i) := rb (cd vC) aH
theorem jQ : oz x4 H =
 some ((vb false), H) :=
 (by kernel_rfl)
theorem q8 : Uh Y Z x4 x8 H =
 (aq .other .eql x8 (vi 15)).bind fun q =>
 ax q
 (ld [.n, .f 0] Y H fun s =>
 ld [.n, .f 1] Y H fun t =>
 (FF ed [s, t] H).bind fun o =>
 st 1 [.n, .f 13] Y o.1 o.2 fun w =>
 st 1 [.n, .f 6] Y (vi 16) w fun d =>
 ld [.n, .f 13] Y d fun y =>
 (aq .other .rem y (vw 2)).bind fun z =>
 (aq .other .eql z (vw 1)).bind fun A =>
 ax A
 (st 1 [.n, .f 6] Y (vi 7) d fun B =>
 oz x4 B)
 (oz x4 d))
 ((aq .other .eql x8 (vi 16)).bind fun C =>
 ax C
 (st 1 [.n, .f 6] Y (vi 17) H fun D =>
 (FF ef [Y] D).bind fun e =>
 (aq .other .eql e.1 (vi 2)).bind fun E =>
 ax E
 (st 1 [.n, .f 6] Y (vi 3) e.2 fun G =>
 oz x4 G)
 (oz x4 e.2))
 ((aq .other .eql x8 (vi 17)).bind fun I =>
 ax I
 ((FF bU [Y] H).bind fun c =>
 ad [.n, .f 1] Y fun g =>
 (ar g c.2).bind fun J =>
 bZ (ar g H) (ar g c.2) <|
 (FF iq [c.1, J] c.2).bind fun p =>
 st 1 [.n, .f 12] Y p.1 p.2 fun K =>
 st 1 [.n, .f 16] Y Z K fun L =>
 st 1 [.n, .f 6] Y (vi 18) L fun i =>
 (FF bU [Y] i).bind fun a =>
 ad [.n, .f 11] Y fun j =>
 (ar j a.2).bind fun M =>
 bZ (ar j i) (ar j a.2) <|
 ad [.n, .f 12] Y fun k =>
 (ar k a.2).bind fun N =>
 bZ (ar k i) (ar k a.2) <|
 (FF ip [a.1, M, N] a.2).bind fun l =>
 (mD .not l.1).bind fun O =>
 ax O
 (st 1 [.n, .f 6] Y (vi 7) l.2 fun P =>
 oz x4 P)
 (oz x4 l.2))
 ((aq .other .eql x8 (vi 18)).bind fun Q =>
 ax Q
 (ld [.n, .f 0] Y H fun R =>
 ld [.n, .f 1] Y H fun S =>
 (FF ed [R, S] H).bind fun b =>
 ad [.n, .f 13] Y fun m =>
 (ar m b.2).bind fun T =>
 bZ (ar m H) (ar m b.2) <|
 (aq .other .eql b.1 T).bind fun U =>
 ax U
 (ld [.n, .f 16] Y b.2 fun V =>
 (FF bC [Y, V, (vi 9)] b.2).bind fun W =>
 some ((vb true), W.2))
 (st 1 [.n, .f 6] Y (vi 7) b.2 fun X =>
 oz x4 X))
 (oz x4 H)))) :=
 (bt rfl (zK [1, 0, 1, 4]) 0 Ok (by kernel_rfl))
theorem q7 : Ug Y Z x4 H =
 ld [.n, .f 6] Y H fun a =>
 Uh Y Z x4 a H :=
 (pt rfl 0 vC (pt rfl 0 Oj (by kernel_rfl)))
noncomputable def rTf : OV := bn PP GG FF (zK []) (ls [Y, Z] 103) H px ca px
theorem Fu {r : Value × AH} (h : (
 Ug Y Z (vb false) H) = some r) : FF Yd [Y, Z] H = some r :=
 fo (t := rTf Y Z H) Tryz.func108 (by kernel_rfl) (Eq.trans (pt rfl 0 Oi (by kernel_rfl)) h)
noncomputable def zL (p : List Nat) : Code := Code.sub (ce Tryz.f109) p
noncomputable def pz : KK := fE PP (Tryz.f109).results.toList
noncomputable def Lu : KK := CQ (zL [1, 1]) pz ca pz
noncomputable def Uk : OV := Lu (ls [Y, Z, u, u, x4, x5] 113) H
noncomputable def DV : KK := CQ (zL [1, 1, 1]) pz ca pz
noncomputable def Lt : KK := jv KZ DV
noncomputable def qj : OV := DV (ls [u, u, u, u, x4] 114) H
noncomputable def Lv : KK := CQ (zL [1, 1, 0, 1]) Lt ca pz
noncomputable def Ul : OV := Lv (ls [Y, Z, u, u, x4, x5, u, u, u, u, u, u, u, x13] 105) H
noncomputable def Wd : KX := BX 0 Lt ca
theorem pA : az KZ pz := rf
theorem Ol : az 664613997892457936451903530140172236 Lu := rc pA aH pA
theorem vD : az KZ DV := rc pA aH pA
theorem Om : az 664613997892457936451903530140164044 Lv := rc (cd vD) aH pA
theorem On : ∀ i, az KZ (Wd i) := rb (cd vD) aH
theorem lx : qj x4 H =
 some ((vb false), H) :=
 (by kernel_rfl)
theorem ly : Ul Y Z x4 x5 x13 H =
 (aq .other .eql x13 (vi 20)).bind fun i =>
 ax i
 (ld [.n, .f 6] x5 H fun j =>
 ld [.n, .f 1] Y H fun k =>
 (FF io [j, k] H).bind fun l =>
 st 1 [.n, .f 6] Y (vi 7) l.2 fun m =>
 qj x4 m)
 ((aq .other .eql x13 (vi 21)).bind fun o =>
 ax o
 ((FF bU [Y] H).bind fun a =>
 ad [.n, .f 1] Y fun b =>
 (ar b a.2).bind fun p =>
 bZ (ar b H) (ar b a.2) <|
 (FF fm [Y] a.2).bind fun d =>
 bZ (ar b d.2) (ar b a.2) <|
 (FF ir [a.1, p, d.1] d.2).bind fun q =>
 st 1 [.n, .f 6] Y (vi 22) q.2 fun s =>
 qj x4 s)
 ((aq .other .eql x13 (vi 22)).bind fun t =>
 ax t
 (ld [.n, .f 6] x5 H fun w =>
 ld [.n, .f 1] Y H fun y =>
 (FF ky [w, y, Z] H).bind fun g =>
 st 1 [.n, .f 15] Y g.1 g.2 fun z =>
 st 1 [.n, .f 6] Y (vi 23) z fun A =>
 qj x4 A)
 ((aq .other .eql x13 (vi 23)).bind fun B =>
 ax B
 (ld [.n, .f 6] x5 H fun C =>
 ld [.n, .f 1] Y H fun D =>
 ld [.n, .f 10] Y H fun E =>
 ld [.n, .f 15] Y H fun G =>
 (FF jJ [C, D, E, G] H).bind fun I =>
 st 1 [.n, .f 6] Y (vi 24) I.2 fun J =>
 qj x4 J)
 ((aq .other .eql x13 (vi 24)).bind fun K =>
 ax K
 (st 1 [.n, .f 6] Y (vi 22) H fun c =>
 ld [.n, .f 6] x5 c fun L =>
 ld [.n, .f 1] Y c fun M =>
 ld [.n, .f 15] Y c fun N =>
 ld [.n, .f 10] Y c fun O =>
 (FF jK [L, M, Z, N, O] c).bind fun e =>
 ax e.1
 (st 1 [.n, .f 6] Y (vi 25) e.2 fun P =>
 qj x4 P)
 (qj x4 e.2))
 ((aq .other .eql x13 (vi 25)).bind fun Q =>
 ax Q
 (ld [.n, .f 6] x5 H fun R =>
 ld [.n, .f 1] Y H fun S =>
 (FF io [R, S] H).bind fun T =>
 some ((vb true), T.2))
 (qj x4 H)))))) :=
 (bt rfl (zL [1, 1, 0, 1, 4]) 0 On (by kernel_rfl))
theorem lw : Uk Y Z x4 x5 H =
 ld [.n, .f 6] Y H fun a =>
 Ul Y Z x4 x5 a H :=
 (pt rfl 0 vD (pt rfl 0 Om (by kernel_rfl)))
noncomputable def rTw : OV := bn PP GG FF (zL []) (ls [Y, Z] 117) H pz ca pz
theorem ww {r : Value × AH} (h : (
 ld [.n, .f 0] Y H fun a =>
 Uk Y Z (vb false) a H) = some r) : FF TJ [Y, Z] H = some r :=
 fo (t := rTw Y Z H) Tryz.func109 (by kernel_rfl) (Eq.trans (pt rfl 1 Ol (by kernel_rfl)) h)
end
section
variable (x0 x1 x2 x3 x4 x5 x6 x7 x8 x9 x10 x14 x15 x17 x19 x30 : Value) (H : AH)
noncomputable def mO (p : List Nat) : Code := Code.sub (ce Tryz.f110) p
noncomputable def mP : KK := fE PP (Tryz.f110).results.toList
noncomputable def Lw : KK := CQ (mO [1, 1]) mP ca mP
noncomputable def km : OV := Lw (ls [x0, x1, x2, u, u, u, x6, x7] 128) H
noncomputable def DW : KK := CQ (mO [1, 1, 1]) mP ca mP
noncomputable def tI : KK := jv NU DW
noncomputable def cA : OV := DW (ls [u, u, u, u, u, u, x6] 129) H
noncomputable def Lx : KK := CQ (mO [1, 1, 0, 1]) tI ca mP
noncomputable def gy : OV := Lx (ls [x0, x1, x2, u, u, u, x6, x7, u, u, u, u, u, u, u, u, u, u, u, x19] 116) H
noncomputable def LA : KX := BX 0 tI ca
noncomputable def DX : KX := FV NU LA
noncomputable def Ly : KK := CQ (mO [1, 1, 0, 1, 4, 1]) tI DX mP
noncomputable def ko : OV := Ly (ls [x0, x1, x2, u, u, u, x6, x7, u, u, u, u, u, u, u, u, u, u, u, x19, u, u, u, u, u, u, u, u, u, u, x30] 105) H
noncomputable def Lz : KK := CQ (mO [1, 1, 0, 1, 4, 1, 2, 1]) tI DX mP
noncomputable def kp : OV := Lz (ls [x0, x1, u, u, u, u, x6, u, x8, x9] 126) H
noncomputable def We : KX := BX 1 tI DX
theorem lG : az NU mP := rf
theorem Oo : az 87112285931760246646623899502532662132536 Lw := rc lG aH lG
theorem lg : az NU DW := rc lG aH lG
theorem Oq : az 87112285931760246646623899502532661608248 Lx := rc (cd lg) aH lG
theorem qN : ∀ i, az NU (LA i) := rb (cd lg) aH
theorem Ot : az 87112285931760246646623899502531587866424 Ly := rc (cd lg) (cx qN) lG
theorem Ou : az 87112285931760246646623899502532662131900 Lz := rc (cd lg) (cx qN) lG
theorem Ov : ∀ i, az NU (We i) := rb (cd lg) (cx qN)
theorem cu : cA x6 H =
 some ((vb false), H) :=
 (by kernel_rfl)
theorem nK : kp x0 x1 x6 x8 x9 H =
 ax x8
 ((FF bC [x0, x1, (vi 6)] H).bind fun a =>
 st 1 [.n, .f 6] x0 (vi 6) a.2 fun b =>
 cA x6 b)
 ((gV x9 true x0).bind fun c =>
 fT x9 true  [.n, .f 8] c H fun d =>
 (gB x9 true (aq .other .lss d (vi 0))).bind fun e =>
 (aX x9 e (vb false)).bind fun g =>
 ax g
 ((FF bC [x0, x1, (vi 7)] H).bind fun i =>
 st 1 [.n, .f 6] x0 (vi 6) i.2 fun j =>
 cA x6 j)
 (ax x9
 (st 1 [.n, .f 6] x0 (vi 4) H fun k =>
 cA x6 k)
 (cA x6 H))) :=
 (bt rfl (mO [1, 1, 0, 1, 4, 1, 2, 1, 4]) 1 Ov (by kernel_rfl))
theorem dy : ko x0 x1 x2 x6 x7 x19 x30 H =
 ax x30
 ((FF AI [x0] H).bind fun b =>
 (af b.1 0).bind fun d =>
 (af b.1 1).bind fun e =>
 kp x0 x1 x6 d e b.2)
 ((aq .other .eql x19 (vi 4)).bind fun g =>
 ax g
 (ld [.n, .f 0, .f 4] x7 H fun i =>
 ld [.n, .f 2, .f 2] x0 H fun j =>
 (FF jW [i, j] H).bind fun a =>
 (af a.1 0).bind fun k =>
 (af a.1 1).bind fun K =>
 ld [.n, .f 1] x0 a.2 fun l =>
 ld [.n, .f 2, .f 1] x0 a.2 fun m =>
 ld [.n, .f 2, .f 3] x0 a.2 fun o =>
 gC [(0, 1), (1, 1), (2, 1)] [(vi 0), (vi 0), (vw 0)] [(0, m), (1, o), (2, k)] fun p =>
 (FF gK [x7, l, p] a.2).bind fun c =>
 st 1 [.n, .f 10] x0 c.1 c.2 fun q =>
 st 1 [.n, .f 6] x0 (vi 5) q fun s =>
 cA x6 s)
 ((aq .other .eql x19 (vi 5)).bind fun t =>
 ax t
 (ld [.n, .f 7] x7 H fun w =>
 ld [.n, .f 1] x0 H fun y =>
 ld [.n, .f 8] x0 H fun z =>
 ld [.n, .f 2, .f 1] x0 H fun A =>
 ld [.n, .f 10] x0 H fun B =>
 (FF iv [w, y, x2, z, A, B] H).bind fun C =>
 (FF bC [x0, x1, (vi 0)] C.2).bind fun D =>
 st 1 [.n, .f 6] x0 (vi 6) D.2 fun E =>
 cA x6 E)
 (ld [.n, .f 7] x7 H fun G =>
 ld [.n, .f 1] x0 H fun I =>
 (FF dV [G, I, x2] H).bind fun J =>
 some ((vb true), J.2)))) :=
 (ct rfl (mO [1, 1, 0, 1, 4, 1, 2]) (mO [1, 1, 0, 1, 4, 1, 3]) (.tmp 30) (pt rfl 0 Ou (by kernel_rfl)) (by kernel_rfl))
theorem dx : gy x0 x1 x2 x6 x7 x19 H =
 (aq .other .eql x19 (vi 3)).bind fun a =>
 ko x0 x1 x2 x6 x7 x19 a H :=
 (bt rfl (mO [1, 1, 0, 1, 4]) 0 qN (pt rfl 0 Ot (by kernel_rfl)))
theorem nJ : km x0 x1 x2 x6 x7 H =
 ld [.n, .f 6] x0 H fun a =>
 gy x0 x1 x2 x6 x7 a H :=
 (pt rfl 0 lg (pt rfl 0 Oq (by kernel_rfl)))
noncomputable def uN : OV := bn PP GG FF (mO []) (ls [x0, x1, x2] 133) H mP ca mP
theorem qh {r : Value × AH} (h : (
 ld [.n, .f 0] x0 H fun a =>
 km x0 x1 x2 (vb false) a H) = some r) : FF kJ [x0, x1, x2] H = some r :=
 fo (t := uN x0 x1 x2 H) Tryz.func110 (by kernel_rfl) (Eq.trans (pt rfl 1 Oo (by kernel_rfl)) h)
noncomputable def zM (p : List Nat) : Code := Code.sub (ce Tryz.f111) p
noncomputable def pB : KK := fE PP (Tryz.f111).results.toList
noncomputable def LC : KK := CQ (zM [1, 1]) pB ca pB
noncomputable def nL : OV := LC (ls [x0, x1, x2, u, u, u, x6, x7] 153) H
noncomputable def DY : KK := CQ (zM [1, 1, 1]) pB ca pB
noncomputable def LB : KK := jv VP DY
noncomputable def bz : OV := DY (ls [u, u, u, u, u, u, x6] 154) H
noncomputable def LD : KK := CQ (zM [1, 1, 0, 1]) LB ca pB
noncomputable def jP : OV := LD (ls [x0, x1, x2, u, u, u, x6, x7, u, u, u, u, u, u, u, u, u, x17] 143) H
noncomputable def Wf : KX := BX 0 LB ca
theorem pC : az VP pB := rf
theorem Ow : az 2923003274661805836407369665432566039311865085752 LC := rc pC aH pC
theorem vE : az VP DY := rc pC aH pC
theorem Ox : az 2923003274661805836407369665432566039311864954680 LD := rc (cd vE) aH pC
theorem Oy : ∀ i, az VP (Wf i) := rb (cd vE) aH
theorem bk : bz x6 H =
 some ((vb false), H) :=
 (by kernel_rfl)
theorem cp : jP x0 x1 x2 x6 x7 x17 H =
 (aq .other .eql x17 (vi 3)).bind fun q =>
 ax q
 ((FF AI [x0] H).bind fun c =>
 (af c.1 0).bind fun s =>
 (af c.1 1).bind fun t =>
 ax s
 (st 1 [.n, .f 6] x0 (vi 4) c.2 fun w =>
 bz x6 w)
 (ax t
 ((FF bC [x0, x1, (vi 5)] c.2).bind fun y =>
 st 1 [.n, .f 6] x0 (vi 10) y.2 fun z =>
 bz x6 z)
 (bz x6 c.2)))
 ((aq .other .eql x17 (vi 4)).bind fun A =>
 ax A
 (st 1 [.n, .f 6] x0 (vi 5) H fun B =>
 (FF ef [x0] B).bind fun d =>
 (aq .other .eql d.1 (vi 0)).bind fun C =>
 ax C
 (st 1 [.n, .f 6] x0 (vi 8) d.2 fun D =>
 bz x6 D)
 (bz x6 d.2))
 ((aq .other .eql x17 (vi 5)).bind fun E =>
 ax E
 (ld [.n, .f 1] x0 H fun G =>
 (FF ed [x7, G] H).bind fun p =>
 st 1 [.n, .f 13] x0 p.1 p.2 fun I =>
 st 1 [.n, .f 6] x0 (vi 6) I fun e =>
 ld [.n, .f 13] x0 e fun J =>
 (aq .other .rem J (vw 2)).bind fun K =>
 (aq .other .eql K (vw 1)).bind fun L =>
 ax L
 (st 1 [.n, .f 6] x0 (vi 4) e fun M =>
 bz x6 M)
 (bz x6 e))
 ((aq .other .eql x17 (vi 6)).bind fun N =>
 ax N
 (st 1 [.n, .f 6] x0 (vi 7) H fun O =>
 st 1 [.n, .f 16] x0 x1 O fun P =>
 (FF ef [x0] P).bind fun g =>
 (aq .other .eql g.1 (vi 0)).bind fun Q =>
 ax Q
 (st 1 [.n, .f 6] x0 (vi 8) g.2 fun R =>
 bz x6 R)
 (bz x6 g.2))
 ((aq .other .eql x17 (vi 7)).bind fun S =>
 ax S
 (st 1 [.n, .f 6] x0 (vi 4) H fun i =>
 ld [.n, .f 1] x0 i fun T =>
 (FF ed [x7, T] i).bind fun a =>
 ad [.n, .f 13] x0 fun j =>
 (ar j a.2).bind fun U =>
 bZ (ar j i) (ar j a.2) <|
 (aq .other .eql a.1 U).bind fun V =>
 ax V
 (ld [.n, .f 16] x0 a.2 fun W =>
 (FF bC [x0, W, (vi 8)] a.2).bind fun X =>
 st 1 [.n, .f 6] x0 (vi 10) X.2 fun Y =>
 bz x6 Y)
 (bz x6 a.2))
 ((aq .other .eql x17 (vi 8)).bind fun Z =>
 ax Z
 (st 1 [.n, .f 6] x0 (vi 4) H fun k =>
 (FF bU [x0] k).bind fun b =>
 ad [.n, .f 1] x0 fun l =>
 (ar l b.2).bind fun a0 =>
 bZ (ar l k) (ar l b.2) <|
 ad [.n, .f 11] x0 fun m =>
 (ar m b.2).bind fun a1 =>
 bZ (ar m k) (ar m b.2) <|
 (FF iu [b.1, a0, a1, (vi 2)] b.2).bind fun o =>
 ax o.1
 ((FF bC [x0, x1, (vi 0)] o.2).bind fun a2 =>
 st 1 [.n, .f 6] x0 (vi 9) a2.2 fun a3 =>
 bz x6 a3)
 (bz x6 o.2))
 ((aq .other .eql x17 (vi 9)).bind fun a4 =>
 ax a4
 (ld [.n, .f 7] x7 H fun a5 =>
 ld [.n, .f 1] x0 H fun a6 =>
 ld [.n, .f 7] x0 H fun a7 =>
 (FF ja [a5, a6, x2, a7] H).bind fun a8 =>
 st 1 [.n, .f 6] x0 (vi 10) a8.2 fun a9 =>
 bz x6 a9)
 (ld [.n, .f 7] x7 H fun b0 =>
 ld [.n, .f 1] x0 H fun b1 =>
 (FF dV [b0, b1, x2] H).bind fun b2 =>
 some ((vb true), b2.2)))))))) :=
 (bt rfl (zM [1, 1, 0, 1, 4]) 0 Oy (by kernel_rfl))
theorem rA : nL x0 x1 x2 x6 x7 H =
 ld [.n, .f 6] x0 H fun a =>
 jP x0 x1 x2 x6 x7 a H :=
 (pt rfl 0 vE (pt rfl 0 Ox (by kernel_rfl)))
noncomputable def B7 : OV := bn PP GG FF (zM []) (ls [x0, x1, x2] 158) H pB ca pB
theorem wr {r : Value × AH} (h : (
 ld [.n, .f 0] x0 H fun a =>
 nL x0 x1 x2 (vb false) a H) = some r) : FF oP [x0, x1, x2] H = some r :=
 fo (t := B7 x0 x1 x2 H) Tryz.func111 (by kernel_rfl) (Eq.trans (pt rfl 1 Ow (by kernel_rfl)) h)
theorem nk {r : Value × AH} (h : (
 (FF pS [x0, x1, (.func (.func mX) #[] #[])] H).bind fun a =>
 some (a.1, a.2)) = some r) : FF fG [x0, x1] H = some r :=
 fo Tryz.func112 (by kernel_rfl) h
theorem xN {r : Value × AH} (h : (
 aZ (Value.cells x3).toList H fun c a =>
 ld [.n, .f 1] x0 a fun d =>
 (aA 3 c a).bind fun e =>
 gC [(0, 1), (1, 1), (2, 3)] [(vi 0), (vi 0), (vi 0), (vi 0), (vi 0)] [(0, x1), (1, x2), (2, e)] fun g =>
 E5 1 5 [(vi 0), (vi 0), (vi 0), (vi 0), (vi 0)] [(0, g)] a fun i j =>
 (f3 5 40 d i j).bind fun b =>
 st 1 [.n, .f 1] x0 b.1 b.2 fun k =>
 some (Value.tuple #[], k)) = some r) : FF dp [x0, x1, x2, x3] H = some r :=
 fo Tryz.func113 (by kernel_rfl) h
theorem xK {r : Value × AH} (h : (
 aZ (Value.cells x1).toList H fun b a =>
 ld [.n, .f 0] x0 a fun c =>
 (aA 3 b a).bind fun d =>
 (cY (.flat 3) (.agg #[(vw 0)]) c d false a).bind fun e =>
 (kK none 0 e).bind fun g =>
 some (g, a)) = some r) : FF fh [x0, x1] H = some r :=
 fo Tryz.func114 (by kernel_rfl) h
theorem Y5 {r : Value × AH} (h : (
 (aq .slice .eql x0 (.slice none 0 0)).bind fun b =>
 ax b
 (some ((.slice none 0 0), H))
 (E5 0 3 [(vi 0), (vi 0), (vi 0)] [] H fun c d =>
 (f3 3 24 c x0 d).bind fun a =>
 some (a.1, a.2))) = some r) : FF TK [x0] H = some r :=
 fo Tryz.func117 (by kernel_rfl) h
theorem xO {r : Value × AH} (h : (
 aZ (Value.cells x2).toList H fun a d =>
 (aA 3 a d).bind fun e =>
 (FF fh [x0, e] d).bind fun b =>
 (aA 3 a b.2).bind fun g =>
 (FF dp [x0, x1, (vi 3), g] b.2).bind fun c =>
 ld [.n, .f 0] x0 c.2 fun i =>
 (aA 3 a c.2).bind fun j =>
 gC [(0, 1)] [(vw 0)] [(0, x3)] fun k =>
 (eD (.flat 3) i j k c.2).bind fun l =>
 some (b.1, l)) = some r) : FF i6 [x0, x1, x2, x3] H = some r :=
 fo Tryz.func118 (by kernel_rfl) h
theorem xR {r : Value × AH} (h : (
 (aq .other .geq x0 x1).bind fun a =>
 (gV a true x0).bind fun b =>
 (gV a true x2).bind fun c =>
 (gB a true (aq .other .leq b c)).bind fun d =>
 (aX a d (vb false)).bind fun e =>
 some (e, H)) = some r) : FF fj [x0, x1, x2] H = some r :=
 fo Tryz.func119 (by kernel_rfl) h
theorem vO {r : Value × AH} (h : (
 aZ [(vi 0), (vi 0), (vi 0)] H fun a c =>
 gC [(0, 1), (1, 1), (2, 1)] [(vi 0), (vi 0), (vi 0)] [(0, x0), (1, x1)] fun d =>
 (cD 3 a d c).bind fun b =>
 (aA 3 a b).bind fun e => some (e, b)) = some r) : FF bB [x0, x1] H = some r :=
 fo Tryz.func120 (by kernel_rfl) h
noncomputable def mQ (p : List Nat) : Code := Code.sub (ce Tryz.f121) p
noncomputable def lH : KK := fE PP (Tryz.f121).results.toList
noncomputable def LG : KK := CQ (mQ [1, 1, 1]) lH ca lH
noncomputable def uB : OV := LG (ls [u, x1, u, u, x4, x5, x6] 23) H
noncomputable def DZ : KK := CQ (mQ [1, 1, 1, 1]) lH ca lH
noncomputable def LE : KK := jv 1073741743 DZ
noncomputable def uC : OV := DZ (ls [u, u, u, u, x4, u, x6] 23) H
noncomputable def LH : KK := CQ (mQ [1, 1, 1, 0, 1]) LE ca lH
noncomputable def uD : OV := LH (ls [u, x1, u, u, x4, u, x6, u, u, u, u, u, u, u, x14, x15] 14) H
noncomputable def D4 : KX := BX 0 LE ca
noncomputable def yC : KX := FV 1073741743 D4
noncomputable def D0 : KK := NF (mQ [1, 1, 1, 0, 1, 4, 5]) yC lH
noncomputable def LF : KK := jv zo D0
noncomputable def kW : OV := D0 (ls [u, x1, u, u, x4, u, x6, u, u, u, u, u, u, u, x14, x15] 14) H
noncomputable def LI : KK := CQ (mQ [1, 1, 1, 0, 1, 4, 5, 1, 1]) LF yC lH
noncomputable def uE : OV := LI (ls [u, x1, u, u, x4, u, x6, u, u, u, u, u, u, u, x14, x15] 14) H
noncomputable def D3 : KK := CQ (mQ [1, 1, 1, 0, 1, 4, 5, 1, 1, 1]) LF yC lH
noncomputable def Wg : KK := jv zo D3
noncomputable def uF : OV := D3 (ls [u, x1, u, u, x4, u, x6, u, u, u, u, u, u, u, x14, x15] 14) H
noncomputable def Wh : KX := BX 1 Wg yC
noncomputable def qc : OV := D4 0 (ls [u, u, u, u, x4, u, x6] 23) H
theorem j7 : az 1073741807 lH := rf
theorem Oz : az 1073741709 LG := rc j7 aH j7
theorem vF : az 1073741743 DZ := rc j7 aH j7
theorem OA : az zo LH := rc (cd vF) aH j7
theorem ne : ∀ i, az 1073741743 (D4 i) := rb (cd vF) aH
theorem qO : az zo D0 := rl (cx ne) j7
theorem OB : az zo LI := rc (cd qO) (cx ne) j7
theorem CB : az zo D3 := rc (cd qO) (cx ne) j7
theorem OC : ∀ i, az zo (Wh i) := rb (cd CB) (cx ne)
theorem xW : uC x4 x6 H =
 some (x6, H) :=
 (by kernel_rfl)
theorem xZ : uF x1 x4 x6 x14 x15 H =
 (aq .other .add x15 (vi 1)).bind fun a =>
 kW x1 x4 x6 x14 a H :=
 (by kernel_rfl)
theorem xY : uE x1 x4 x6 x14 x15 H =
 ad [.n, .f 0] x6 fun a =>
 (ar a H).bind fun d =>
 (FF pZ [x1] H).bind fun b =>
 bZ (ar a b.2) (ar a H) <|
 E5 1 1 [(.pointer none)] [(0, b.1)] b.2 fun e g =>
 (f3 1 8 d e g).bind fun c =>
 st 1 [.n, .f 0] x6 c.1 c.2 fun i =>
 uF x1 x4 x6 x14 x15 i :=
 (pt rfl 0 CB (bt rfl (mQ [1, 1, 1, 0, 1, 4, 5, 1, 1, 0, 4]) 1 OC (by kernel_rfl)))
theorem uA : qc x4 x6 H = uC x4 x6 H :=
 (by kernel_rfl)
theorem oQ : kW x1 x4 x6 x14 x15 H =
 (aq .other .lss x15 x14).bind fun a =>
 ax a
 (uE x1 x4 x6 x14 x15 H)
 (qc x4 x6 H) :=
 PJ rfl qO (pt rfl 1 OB (by kernel_rfl))
theorem xX : uD x1 x4 x6 x14 x15 H =
 kW x1 x4 x6 x14 x15 H :=
 (bt rfl (mQ [1, 1, 1, 0, 1, 4]) 0 ne (li rfl (mQ [1, 1, 1, 0, 1, 4, 5]) qO (by kernel_rfl)))
theorem xV : uB x1 x4 x5 x6 H =
 uD x1 x4 x6 x5 (vi 0) H :=
 (pt rfl 0 vF (pt rfl 0 OA (by kernel_rfl)))
noncomputable def PS : OV := bn PP GG FF (mQ []) (ls [x0, x1] 28) H lH ca lH
theorem Fc {r : Value × AH} (h : (
 (ii [x0, (vi 1)]).bind fun c =>
 (ju [c, (vi 16)]).bind fun a =>
 (FF sH [a] H).bind fun b =>
 gC [(0, 1), (1, 1)] [(.slice none 0 0), (.pointer none)] [(1, b.1)] fun d =>
 aZ (Value.cells d).toList b.2 fun e f =>
 uB x1 (.pointer none) a e f) = some r) : FF pX [x0, x1] H = some r :=
 fo (t := PS x0 x1 H) Tryz.func121 (by kernel_rfl) (Eq.trans (pt rfl 2 Oz (by kernel_rfl)) h)
noncomputable def mR (p : List Nat) : Code := Code.sub (ce Tryz.f125) p
noncomputable def lI : KK := fE PP (Tryz.f125).results.toList
noncomputable def LM : KK := CQ (mR [1, 1]) lI ca lI
noncomputable def T8 : OV := LM (ls [x0, x1, u, u, x4, x5] 24) H
noncomputable def D5 : KK := CQ (mR [1, 1, 1]) lI ca lI
noncomputable def LJ : KK := jv 1073741775 D5
noncomputable def T9 : OV := D5 (ls [u, u, u, u, x4, x5] 24) H
noncomputable def LN : KK := CQ (mR [1, 1, 0, 1]) LJ ca lI
noncomputable def Ua : OV := LN (ls [x0, x1, u, u, x4, x5, x6] 23) H
noncomputable def D8 : KX := BX 0 LJ ca
noncomputable def yD : KX := FV 1073741775 D8
noncomputable def D6 : KK := NF (mR [1, 1, 0, 1, 4, 5]) yD lI
noncomputable def LK : KK := jv zp D6
noncomputable def Fm : OV := D6 (ls [x0, x1, u, u, x4, x5, x6] 23) H
noncomputable def LO : KK := CQ (mR [1, 1, 0, 1, 4, 5, 1]) LK yD lI
noncomputable def Ub : OV := LO (ls [x0, x1, u, u, x4, x5, x6] 23) H
noncomputable def D7 : KK := CQ (mR [1, 1, 0, 1, 4, 5, 1, 1]) LK yD lI
noncomputable def Wi : KK := jv zp D7
noncomputable def Uc : OV := D7 (ls [x0, x1, u, u, x4, x5, x6] 23) H
noncomputable def Wj : KX := BX 1 Wi yD
noncomputable def HD : OV := D8 0 (ls [u, u, u, u, x4, x5] 24) H
theorem j8 : az 1073741807 lI := rf
theorem OD : az 1073741772 LM := rc j8 aH j8
theorem vG : az 1073741775 D5 := rc j8 aH j8
theorem OE : az zp LN := rc (cd vG) aH j8
theorem ng : ∀ i, az 1073741775 (D8 i) := rb (cd vG) aH
theorem qP : az zp D6 := rl (cx ng) j8
theorem OF : az zp LO := rc (cd qP) (cx ng) j8
theorem CC : az zp D7 := rc (cd qP) (cx ng) j8
theorem OG : ∀ i, az zp (Wj i) := rb (cd CC) (cx ng)
theorem P1 : T9 x4 x5 H =
 some (x5, H) :=
 (by kernel_rfl)
theorem P5 : Uc x0 x1 x4 x5 x6 H =
 (aq .other .add x6 (vi 1)).bind fun a =>
 Fm x0 x1 x4 x5 a H :=
 (by kernel_rfl)
theorem P4 : Ub x0 x1 x4 x5 x6 H =
 ad [.n, .f 0] x5 fun a =>
 (ar a H).bind fun d =>
 (FF pY [x1] H).bind fun b =>
 bZ (ar a b.2) (ar a H) <|
 gC [(0, 1), (1, 1), (2, 1), (3, 1)] [(.slice none 0 0), (vw 0), (vi 0), (vb false)] [(2, b.1), (3, (vb true))] fun e =>
 aZ (Value.cells e).toList b.2 fun g i =>
 E5 1 1 [(.pointer none)] [(0, g)] i fun j k =>
 (f3 1 8 d j k).bind fun c =>
 st 1 [.n, .f 0] x5 c.1 c.2 fun l =>
 Uc x0 x1 x4 x5 x6 l :=
 (pt rfl 0 CC (bt rfl (mR [1, 1, 0, 1, 4, 5, 1, 0, 4]) 1 OG (by kernel_rfl)))
theorem HE : HD x4 x5 H = T9 x4 x5 H :=
 (by kernel_rfl)
theorem C4 : Fm x0 x1 x4 x5 x6 H =
 (ii [x0, (vi 1)]).bind fun a =>
 (ju [a, (vi 16)]).bind fun b =>
 (aq .other .lss x6 b).bind fun c =>
 ax c
 (Ub x0 x1 x4 x5 x6 H)
 (HD x4 x5 H) :=
 PJ rfl qP (pt rfl 0 OF (by kernel_rfl))
theorem P3 : Ua x0 x1 x4 x5 x6 H =
 Fm x0 x1 x4 x5 x6 H :=
 (bt rfl (mR [1, 1, 0, 1, 4]) 0 ng (li rfl (mR [1, 1, 0, 1, 4, 5]) qP (by kernel_rfl)))
theorem PZ : T8 x0 x1 x4 x5 H =
 Ua x0 x1 x4 x5 (vi 0) H :=
 (pt rfl 0 vG (pt rfl 0 OE (by kernel_rfl)))
noncomputable def rNQ : OV := bn PP GG FF (mR []) (ls [x0, x1] 28) H lI ca lI
theorem Y1 {r : Value × AH} (h : (
 gC [(0, 1)] [(.slice none 0 0)] [] fun a =>
 aZ (Value.cells a).toList H fun b c =>
 T8 x0 x1 (.pointer none) b c) = some r) : FF TH [x0, x1] H = some r :=
 fo (t := rNQ x0 x1 H) Tryz.func125 (by kernel_rfl) (Eq.trans (pt rfl 1 OD (by kernel_rfl)) h)
theorem vT {r : Value × AH} (h : (
 aZ (Value.cells x2).toList H fun b a =>
 (aA 3 b a).bind fun c =>
 (FF dp [x0, x1, (vi 6), c] a).bind fun d =>
 some (Value.tuple #[], d.2)) = some r) : FF fW [x0, x1, x2] H = some r :=
 fo Tryz.func126 (by kernel_rfl) h
theorem HJ {r : Value × AH} (h : (
 (ii [x2, (vi 1)]).bind fun c =>
 (ju [c, (vi 8)]).bind fun a =>
 (mC [(vi 0), (vi 0), (vi 0)] 3 24 a a H).bind fun b =>
 gC [(0, 1), (1, 1), (2, 1)] [(.pointer none), (vi 0), (.slice none 0 0)] [(0, x0), (1, x1), (2, b.1)] fun d =>
 aZ (Value.cells d).toList b.2 fun e f =>
 some (e, f)) = some r) : FF sG [x0, x1, x2] H = some r :=
 fo Tryz.func127 (by kernel_rfl) h
theorem AO {r : Value × AH} (h : (
 aZ (Value.cells x3).toList H fun c a =>
 ld [.n, .f 2] x0 a fun d =>
 (aA 3 c a).bind fun e =>
 gC [(0, 1), (1, 1), (2, 3)] [(vi 0), (vi 0), (vi 0), (vi 0), (vi 0)] [(0, x1), (1, x2), (2, e)] fun g =>
 E5 1 5 [(vi 0), (vi 0), (vi 0), (vi 0), (vi 0)] [(0, g)] a fun i j =>
 (f3 5 40 d i j).bind fun b =>
 st 1 [.n, .f 2] x0 b.1 b.2 fun k =>
 some (Value.tuple #[], k)) = some r) : FF cm [x0, x1, x2, x3] H = some r :=
 fo Tryz.func128 (by kernel_rfl) h
theorem AS {r : Value × AH} (h : (
 (ii [x2, (vi 1)]).bind fun c =>
 (ju [c, (vi 8)]).bind fun a =>
 (mC [(vi 0), (vi 0), (vi 0)] 3 24 a a H).bind fun b =>
 gC [(0, 1), (1, 1), (2, 1), (3, 1)] [(.pointer none), (vi 0), (vi 0), (.slice none 0 0)] [(0, x0), (1, x1), (2, a), (3, b.1)] fun d =>
 aZ (Value.cells d).toList b.2 fun e f =>
 some (e, f)) = some r) : FF m6 [x0, x1, x2] H = some r :=
 fo Tryz.func129 (by kernel_rfl) h
theorem vS {r : Value × AH} (h : (
 aZ (Value.cells x2).toList H fun b c =>
 (aA 3 b c).bind fun d =>
 (FF dp [x0, x1, (vi 2), d] c).bind fun a =>
 ld [.n, .f 0] x0 a.2 fun e =>
 (aA 3 b a.2).bind fun g =>
 gC [(0, 1)] [(vw 0)] [(0, x3)] fun i =>
 (eD (.flat 3) e g i a.2).bind fun j =>
 some (Value.tuple #[], j)) = some r) : FF dB [x0, x1, x2, x3] H = some r :=
 fo Tryz.func130 (by kernel_rfl) h
theorem wc {r : Value × AH} (h : (
 aZ (Value.cells x2).toList H fun b c =>
 (aA 3 b c).bind fun e =>
 (FF cm [x0, x1, (vi 2), e] c).bind fun d =>
 (aA 3 b d.2).bind fun g =>
 (FF AG [x0, g] d.2).bind fun a =>
 ld [.n, .f 1] x0 a.2 fun j =>
 st 1 [.i 1 a.1] j x3 a.2 fun k =>
 some (Value.tuple #[], k)) = some r) : FF eb [x0, x1, x2, x3] H = some r :=
 fo Tryz.func131 (by kernel_rfl) h
theorem AA {r : Value × AH} (h : (
 aZ (Value.cells x2).toList H fun a b =>
 (aA 3 a b).bind fun e =>
 (aA 3 a b).bind fun f =>
 (FF fh [x0, f] b).bind fun c =>
 bZ (aA 3 a c.2) (aA 3 a b) <|
 (aq .other .add c.1 x3).bind fun g =>
 (FF i6 [x0, x1, e, g] c.2).bind fun d =>
 some (d.1, d.2)) = some r) : FF ig [x0, x1, x2, x3] H = some r :=
 fo Tryz.func132 (by kernel_rfl) h
theorem AN {r : Value × AH} (h : (
 aZ (Value.cells x2).toList H fun c d =>
 (aA 3 c d).bind fun g =>
 (FF AG [x0, g] d).bind fun a =>
 (aA 3 c a.2).bind fun j =>
 (FF cm [x0, x1, (vi 3), j] a.2).bind fun b =>
 ld [.n, .f 1] x0 b.2 fun k =>
 ld [.i 1 a.1] k b.2 fun e =>
 ld [.n, .f 1] x0 b.2 fun l =>
 (aq .other .add e x3).bind fun m =>
 st 1 [.i 1 a.1] l m b.2 fun o =>
 some (e, o)) = some r) : FF jX [x0, x1, x2, x3] H = some r :=
 fo Tryz.func133 (by kernel_rfl) h
noncomputable def mS (p : List Nat) : Code := Code.sub (ce Tryz.f134) p
noncomputable def lJ : KK := fE PP (Tryz.f134).results.toList
noncomputable def LQ : KK := CQ (mS [1]) lJ ca lJ
noncomputable def T6 : OV := LQ (ls [x0, u, u, x3, x4] 45) H
noncomputable def Ea : KK := CQ (mS [1, 1]) lJ ca lJ
noncomputable def LP : KK := jv Gj Ea
noncomputable def T7 : OV := Ea (ls [x0, u, u, x3, x4] 45) H
noncomputable def GL : KK := CQ (mS [1, 0, 1]) LP ca lJ
noncomputable def M2 : OV := GL (ls [x0, u, u, x3, x4, x5] 44) H
noncomputable def zR : KX := BX 0 LP ca
noncomputable def tK : KX := FV Gj zR
noncomputable def zO : KK := NF (mS [1, 0, 1, 4, 5]) tK lJ
noncomputable def GK : KK := jv zm zO
noncomputable def yV : OV := zO (ls [x0, u, u, x3, x4, x5] 44) H
noncomputable def GM : KK := CQ (mS [1, 0, 1, 4, 5, 1]) GK tK lJ
noncomputable def M3 : OV := GM (ls [x0, u, u, x3, x4, x5] 44) H
noncomputable def zP : KK := CQ (mS [1, 0, 1, 4, 5, 1, 1]) GK tK lJ
noncomputable def RT : KK := jv zm zP
noncomputable def M4 : OV := zP (ls [x0, u, u, x3, x4, x5] 44) H
noncomputable def RU : KX := BX 1 RT tK
noncomputable def C3 : OV := zR 0 (ls [x0, u, u, x3, x4] 45) H
theorem j9 : az 1125899906842607 lJ := rf
theorem OI : az Gj LQ := rc j9 aH j9
theorem vH : az Gj Ea := rc j9 aH j9
theorem Jc : az zm GL := rc (cd vH) aH j9
theorem lK : ∀ i, az Gj (zR i) := rb (cd vH) aH
theorem nW : az zm zO := rl (cx lK) j9
theorem Jd : az zm GM := rc (cd nW) (cx lK) j9
theorem zQ : az zm zP := rc (cd nW) (cx lK) j9
theorem Je : ∀ i, az zm (RU i) := rb (cd zQ) (cx lK)
theorem PY : T7 x0 x3 x4 H =
 ld [.n, .f 0] x0 H fun g =>
 (aA 3 x3 H).bind fun i =>
 E5 1 3 [(vi 0), (vi 0), (vi 0)] [(0, i)] H fun j c =>
 (f3 3 24 g j c).bind fun a =>
 ad [.n, .f 1] x0 fun b =>
 (ar b a.2).bind fun k =>
 bZ (ar b c) (ar b a.2) <|
 E5 1 1 [(vw 0)] [(0, (vw 0))] a.2 fun l m =>
 (f3 1 8 k l m).bind fun d =>
 st 1 [.n, .f 0] x0 a.1 d.2 fun o =>
 st 1 [.n, .f 1] x0 d.1 o fun e =>
 ld [.n, .f 0] x0 e fun p =>
 mh p fun q =>
 (aq .other .sub q (vi 1)).bind fun s =>
 some (s, e) :=
 (by kernel_rfl)
theorem J4 : M4 x0 x3 x4 x5 H =
 (aq .other .add x5 (vi 1)).bind fun a =>
 yV x0 x3 x4 a H :=
 (by kernel_rfl)
theorem J3 : M3 x0 x3 x4 x5 H =
 ld [.n, .f 0] x0 H fun a =>
 ldN 3 [.i 3 x5] a H fun b =>
 (aA 3 x3 H).bind fun c =>
 (aq (.flat 3) .eql b c).bind fun d =>
 ax d
 (some (x5, H))
 (M4 x0 x3 x4 x5 H) :=
 (pt rfl 0 zQ (bt rfl (mS [1, 0, 1, 4, 5, 1, 0, 4]) 1 Je (by kernel_rfl)))
theorem Fl : C3 x0 x3 x4 H = T7 x0 x3 x4 H :=
 (by kernel_rfl)
theorem AV : yV x0 x3 x4 x5 H =
 ld [.n, .f 0] x0 H fun a =>
 mh a fun b =>
 (aq .other .lss x5 b).bind fun c =>
 ax c
 (M3 x0 x3 x4 x5 H)
 (C3 x0 x3 x4 H) :=
 PJ rfl nW (pt rfl 0 Jd (by kernel_rfl))
theorem J2 : M2 x0 x3 x4 x5 H =
 yV x0 x3 x4 x5 H :=
 (bt rfl (mS [1, 0, 1, 4]) 0 lK (li rfl (mS [1, 0, 1, 4, 5]) nW (by kernel_rfl)))
theorem PX : T6 x0 x3 x4 H =
 M2 x0 x3 x4 (vi 0) H :=
 (pt rfl 0 vH (pt rfl 0 Jc (by kernel_rfl)))
noncomputable def rMp : OV := bn PP GG FF (mS []) (ls [x0, x1] 48) H lJ ca lJ
theorem Y0 {r : Value × AH} (h : (
 aZ (Value.cells x1).toList H fun a b =>
 T6 x0 a (vi 0) b) = some r) : FF AG [x0, x1] H = some r :=
 fo (t := rMp x0 x1 H) Tryz.func134 (by kernel_rfl) (Eq.trans (pt rfl 0 OI (by kernel_rfl)) h)
theorem u1 {r : Value × AH} (h : (
 (dd x3 [x2]).bind fun c => (FF c.1 c.2 H).bind fun b =>
 (af b.1 0).bind fun i =>
 (af b.1 1).bind fun a =>
 (gV a true x0).bind fun j =>
 EM a true  [.n, .f 0] j fun e =>
 (gB a true (ar e b.2)).bind fun k =>
 (gV a true x1).bind fun l =>
 (gV a true x0).bind fun m =>
 (gE a true b.2 (FF cX [m, (vi 11), (vi 0)] b.2)).bind fun d =>
 bZ (ar e d.2) (ar e b.2) <|
 (gV a true x2).bind fun o =>
 (gV a true i).bind fun p =>
 (gE a true d.2 (FF fi [k, l, d.1, o, p] d.2)).bind fun g =>
 (aX a g.1 (vb false)).bind fun q =>
 some (q, g.2)) = some r) : FF gP [x0, x1, x2, x3] H = some r :=
 fo Tryz.func135 (by kernel_rfl) h
noncomputable def Eb (p : List Nat) : Code := Code.sub (ce Tryz.f137) p
noncomputable def rZ : KK := fE PP (Tryz.f137).results.toList
noncomputable def LR : KK := CQ (Eb [1, 1]) rZ ca rZ
noncomputable def rN : OV := LR (ls [u, x1, u, u, x4, x5, x6, x7, x8] 47) H
noncomputable def Ec : KK := CQ (Eb [1, 1, 1]) rZ ca rZ
noncomputable def Wm : KK := jv Gi Ec
noncomputable def rO : OV := Ec (ls [u, u, u, u, x4, x5] 50) H
noncomputable def Wn : KX := BX 0 Wm ca
theorem tL : az Gi rZ := rf
theorem OJ : az 72057594037927437 LR := rc tL aH tL
theorem CD : az Gi Ec := rc tL aH tL
theorem OK : ∀ i, az Gi (Wn i) := rb (cd CD) aH
theorem gR : rO x4 x5 H =
 some (Value.tuple #[(vw 0), (vb false)], H) :=
 (by kernel_rfl)
theorem v9 : rN x1 x4 x5 x6 x7 x8 H =
 (mD .not x8).bind fun i =>
 ax i
 (some (Value.tuple #[(vw 0), (vb false)], H))
 ((aq .other .eql x1 (vi 0)).bind fun a =>
 (gV a true x7).bind fun j =>
 (gB a true (aq .other .neq j (vi 2))).bind fun k =>
 (aX a k (vb false)).bind fun b =>
 (gV b true x6).bind fun l =>
 (gB b true (aq .other .lss l (vw 2305843009213693951))).bind fun m =>
 (aX b m (vb false)).bind fun n =>
 ax n
 ((aq .other .add x6 (vw 1)).bind fun o =>
 (FF lS [o, (vi 1)] H).bind fun c =>
 (af c.1 0).bind fun p =>
 (af c.1 1).bind fun q =>
 some (Value.tuple #[p, q], c.2))
 ((aq .other .eql x1 (vi 1)).bind fun d =>
 (gV d true x7).bind fun s =>
 (gB d true (aq .other .eql s (vi 1))).bind fun t =>
 (aX d t (vb false)).bind fun w =>
 ax w
 ((FF lS [x6, (vi 0)] H).bind fun e =>
 (af e.1 0).bind fun y =>
 (af e.1 1).bind fun z =>
 some (Value.tuple #[y, z], e.2))
 ((aq .other .eql x1 (vi 2)).bind fun f =>
 (gV f true x7).bind fun A =>
 (gB f true (aq .other .eql A (vi 0))).bind fun B =>
 (aX f B (vb false)).bind fun C =>
 ax C
 ((FF lS [x6, (vi 2)] H).bind fun g =>
 (af g.1 0).bind fun D =>
 (af g.1 1).bind fun E =>
 some (Value.tuple #[D, E], g.2))
 (rO x4 x5 H)))) :=
 (pt rfl 0 CD (bt rfl (Eb [1, 1, 0, 4]) 0 OK (by kernel_rfl)))
noncomputable def JZ : OV := bn PP GG FF (Eb []) (ls [x0, x1] 54) H rZ ca rZ
theorem B6 {r : Value × AH} (h : (
 (FF gu [x0] H).bind fun a =>
 (af a.1 0).bind fun b =>
 (af a.1 1).bind fun c =>
 (af a.1 2).bind fun d =>
 rN x1 (vw 0) (vb false) b c d a.2) = some r) : FF og [x0, x1] H = some r :=
 fo (t := JZ x0 x1 H) Tryz.func137 (by kernel_rfl) (Eq.trans (pt rfl 1 OJ (by kernel_rfl)) h)
theorem yc {r : Value × AH} (h : (
 aZ (Value.cells x2).toList H fun b c =>
 (aA 3 b c).bind fun e =>
 (FF AG [x0, e] c).bind fun a =>
 ld [.n, .f 1] x0 a.2 fun g =>
 ld [.i 1 a.1] g a.2 fun j =>
 (aq .other .neq j x3).bind fun k =>
 ax k
 ((aA 3 b a.2).bind fun l =>
 (FF cm [x0, x1, (vi 4), l] a.2).bind fun m =>
 some ((vb false), m.2))
 ((aA 3 b a.2).bind fun o =>
 (FF cm [x0, x1, (vi 3), o] a.2).bind fun d =>
 ld [.n, .f 1] x0 d.2 fun p =>
 st 1 [.i 1 a.1] p x4 d.2 fun q =>
 some ((vb true), q))) = some r) : FF gv [x0, x1, x2, x3, x4] H = some r :=
 fo Tryz.func138 (by kernel_rfl) h
theorem DL {r : Value × AH} (h : (
 aZ [(vi 0), (.slice none 0 0), (vi 0), (vw 0)] H fun b d =>
 (FF ln [x0, x1, x2] d).bind fun e =>
 (FF lk [x0, x2] e.2).bind fun a =>
 (af a.1 0).bind fun f =>
 (af a.1 1).bind fun g =>
 (cD 4 b f a.2).bind fun c =>
 (aA 4 b c).bind fun i => some (Value.tuple #[i, g], c)) = some r) : FF iS [x0, x1, x2] H = some r :=
 fo Tryz.func139 (by kernel_rfl) h
noncomputable def Ed (p : List Nat) : Code := Code.sub (ce Tryz.f140) p
noncomputable def r7 : KK := fE PP (Tryz.f140).results.toList
noncomputable def LS : KK := CQ (Ed [1, 1]) r7 ca r7
noncomputable def zE : OV := LS (ls [x0, u, u, u, x4, x5, x6] 27) H
noncomputable def Ee : KK := CQ (Ed [1, 1, 1]) r7 ca r7
noncomputable def Wo : KK := jv 17179869134 Ee
noncomputable def zF : OV := Ee (ls [x0, u, u, u, x4, x5] 28) H
noncomputable def Wp : KX := BX 0 Wo ca
theorem tM : az 17179869135 r7 := rf
theorem OL : az 17179869070 LS := rc tM aH tM
theorem CE : az 17179869134 Ee := rc tM aH tM
theorem OM : ∀ i, az 17179869134 (Wp i) := rb (cd CE) aH
theorem BT : zF x0 x4 x5 H =
 (FF bF [x0, (.func (.func jG) #[x0] #[])] H).bind fun a =>
 (af a.1 0).bind fun c =>
 (af a.1 1).bind fun d =>
 (cD 4 x4 c a.2).bind fun b =>
 (aA 4 x4 b).bind fun e => some (Value.tuple #[e, d], b) :=
 (by kernel_rfl)
theorem BS : zE x0 x4 x5 x6 H =
 ld [.n, .f 10] x0 H fun e =>
 ax e
 ((FF bF [x0, (.func (.func gJ) #[x0] #[])] H).bind fun a =>
 (af a.1 0).bind fun g =>
 (af a.1 1).bind fun i =>
 (cD 4 x4 g a.2).bind fun c =>
 (aA 4 x4 c).bind fun j => some (Value.tuple #[j, i], c))
 (ax x6
 ((FF bF [x0, (.func (.func di) #[x0] #[])] H).bind fun b =>
 (af b.1 0).bind fun k =>
 (af b.1 1).bind fun l =>
 (cD 4 x4 k b.2).bind fun d =>
 (aA 4 x4 d).bind fun m => some (Value.tuple #[m, l], d))
 (zF x0 x4 x5 H)) :=
 (pt rfl 0 CE (bt rfl (Ed [1, 1, 0, 4]) 0 OM (by kernel_rfl)))
noncomputable def VY : OV := bn PP GG FF (Ed []) (ls [x0, x1] 32) H r7 ca r7
theorem IX {r : Value × AH} (h : (
 aZ [(vi 0), (.slice none 0 0), (vi 0), (vw 0)] H fun b c =>
 (FF uo [x0] c).bind fun a =>
 zE x0 b (vb false) a.1 a.2) = some r) : FF jG [x0, x1] H = some r :=
 fo (t := VY x0 x1 H) Tryz.func140 (by kernel_rfl) (Eq.trans (pt rfl 1 OL (by kernel_rfl)) h)
theorem te {r : Value × AH} (h : (
 ld [.n, .f 2, .f 1] x0 H fun b =>
 (aq .other .lss b (vi 0)).bind fun a =>
 (gV a false x0).bind fun c =>
 fT a false  [.n, .f 2, .f 1] c H fun d =>
 (gB a false (aq .other .gtr d (vi 1048576))).bind fun e =>
 (aX a (vb true) e).bind fun g =>
 some (g, H)) = some r) : FF gb [x0] H = some r :=
 fo Tryz.func141 (by kernel_rfl) h
theorem uU {r : Value × AH} (h : (
 aZ [(vi 0), (.slice none 0 0), (vi 0), (vw 0)] H fun a c =>
 (FF cW [x0, x1, x2] c).bind fun d =>
 gC [(0, 1), (1, 1), (2, 1), (3, 1)] [(vi 0), (.slice none 0 0), (vi 0), (vw 0)] [(0, x2)] fun e =>
 (cD 4 a e d.2).bind fun b =>
 (aA 4 a b).bind fun f => some (Value.tuple #[f, (vb true)], b)) = some r) : FF dj [x0, x1, x2] H = some r :=
 fo Tryz.func142 (by kernel_rfl) h
theorem yn {r : Value × AH} (h : (
 aZ [(vi 0), (.slice none 0 0), (vi 0), (vw 0)] H fun b a =>
 ld [.n, .f 0] x0 a fun j =>
 ld [.n, .f 2] j a fun k =>
 ld [.n, .f 1] x0 a fun l =>
 ld [.n, .f 6] x0 a fun m =>
 (FF dW [k, l, m] a).bind fun c =>
 (mD .not c.1).bind fun o =>
 ax o
 ((FF bd [x0, (.func (.func cV) #[x0] #[])] c.2).bind fun d =>
 (af d.1 0).bind fun p =>
 (af d.1 1).bind fun q =>
 (cD 4 b p d.2).bind fun g =>
 (aA 4 b g).bind fun s => some (Value.tuple #[s, q], g))
 ((FF bd [x0, (.func (.func cg) #[x0] #[])] c.2).bind fun e =>
 (af e.1 0).bind fun t =>
 (af e.1 1).bind fun w =>
 (cD 4 b t e.2).bind fun i =>
 (aA 4 b i).bind fun y => some (Value.tuple #[y, w], i))) = some r) : FF cV [x0, x1] H = some r :=
 fo Tryz.func143 (by kernel_rfl) h
theorem wy {r : Value × AH} (h : (
 aZ [(vi 0), (.slice none 0 0), (vi 0), (vw 0)] H fun b a =>
 ld [.n, .f 0] x0 a fun j =>
 ld [.n, .f 2] j a fun k =>
 ld [.n, .f 1] x0 a fun l =>
 ld [.n, .f 6] x0 a fun m =>
 (FF dW [k, l, m] a).bind fun c =>
 (mD .not c.1).bind fun o =>
 ax o
 ((FF bd [x0, (.func (.func cJ) #[x0] #[])] c.2).bind fun d =>
 (af d.1 0).bind fun p =>
 (af d.1 1).bind fun q =>
 (cD 4 b p d.2).bind fun g =>
 (aA 4 b g).bind fun s => some (Value.tuple #[s, q], g))
 ((FF bd [x0, (.func (.func bO) #[x0] #[])] c.2).bind fun e =>
 (af e.1 0).bind fun t =>
 (af e.1 1).bind fun w =>
 (cD 4 b t e.2).bind fun i =>
 (aA 4 b i).bind fun y => some (Value.tuple #[y, w], i))) = some r) : FF cJ [x0, x1] H = some r :=
 fo Tryz.func144 (by kernel_rfl) h
noncomputable def gm (p : List Nat) : Code := Code.sub (ce Tryz.f145) p
noncomputable def gn : KK := fE PP (Tryz.f145).results.toList
noncomputable def LU : KK := CQ (gm [1, 1]) gn ca gn
noncomputable def Ud : OV := LU (ls [x0, x1, x2, u, u, u, u, x7, x8] 81) H
noncomputable def Ef : KK := CQ (gm [1, 1, 1]) gn ca gn
noncomputable def LT : KK := jv Gg Ef
noncomputable def J5 : OV := Ef (ls [x0, x1, x2, u, u, u, u, x7, x8] 81) H
noncomputable def LV : KK := CQ (gm [1, 1, 1, 1, 1]) gn ca gn
noncomputable def Ue : OV := LV (ls [x0, x1, x2, u, u, u, u, x7, x8, u, x10] 79) H
noncomputable def Eg : KK := CQ (gm [1, 1, 1, 1, 1, 1]) gn ca gn
noncomputable def Wq : KK := jv DE Eg
noncomputable def J7 : OV := Eg (ls [x0, x1, x2, u, u, u, u, x7, x8, u, x10] 79) H
noncomputable def zY : KX := BX 2 Wq ca
noncomputable def z0 : KX := FV DE zY
noncomputable def zS : KK := NF (gm [1, 1, 1, 1, 1, 0, 4, 5]) z0 gn
noncomputable def GN : KK := jv DE zS
noncomputable def yW : OV := zS (ls [x0, x1, x2, u, u, u, u, x7, x8, u, x10] 79) H
noncomputable def GP : KK := CQ (gm [1, 1, 1, 1, 1, 0, 4, 5, 1]) GN z0 gn
noncomputable def M5 : OV := GP (ls [x0, x1, x2, u, u, u, u, x7, x8, u, x10] 79) H
noncomputable def RW : KX := BX 3 GN z0
noncomputable def C5 : OV := zY 2 (ls [x0, x1, x2, u, u, u, u, x7, x8, u, x10] 79) H
noncomputable def GQ : KK := CQ (gm [1, 1, 0, 1]) LT ca gn
noncomputable def M6 : OV := GQ (ls [x0, x1, x2, u, u, u, u, x7, x8, x9] 80) H
noncomputable def zZ : KX := BX 0 LT ca
noncomputable def tN : KX := FV Gg zZ
noncomputable def zV : KK := NF (gm [1, 1, 0, 1, 4, 5]) tN gn
noncomputable def GO : KK := jv IE zV
noncomputable def yX : OV := zV (ls [x0, x1, x2, u, u, u, u, x7, x8, x9] 80) H
noncomputable def GR : KK := CQ (gm [1, 1, 0, 1, 4, 5, 1]) GO tN gn
noncomputable def M7 : OV := GR (ls [x0, x1, x2, u, u, u, u, x7, x8, x9] 80) H
noncomputable def zW : KK := CQ (gm [1, 1, 0, 1, 4, 5, 1, 1]) GO tN gn
noncomputable def RV : KK := jv IE zW
noncomputable def yY : OV := zW (ls [x0, x1, x2, u, u, u, u, x7, x8, x9] 80) H
noncomputable def RX : KX := BX 1 RV tN
noncomputable def C6 : OV := zZ 0 (ls [x0, x1, x2, u, u, u, u, x7, x8] 81) H
theorem ej : az 1237940039285380274899124223 gn := rf
theorem ON : az Gg LU := rc ej aH ej
theorem vI : az Gg Ef := rc ej aH ej
theorem OO : az DE LV := rc ej aH ej
theorem CF : az DE Eg := rc ej aH ej
theorem nZ : ∀ i, az DE (zY i) := rb (cd CF) aH
theorem nX : az DE zS := rl (cx nZ) ej
theorem Jf : az DE GP := rc (cd nX) (cx nZ) ej
theorem Ji : ∀ i, az DE (RW i) := rb (cd nX) (cx nZ)
theorem Jg : az IE GQ := rc (cd vI) aH ej
theorem lL : ∀ i, az Gg (zZ i) := rb (cd vI) aH
theorem nY : az IE zV := rl (cx lL) ej
theorem Jh : az IE GR := rc (cd nY) (cx lL) ej
theorem zX : az IE zW := rc (cd nY) (cx lL) ej
theorem Jj : ∀ i, az IE (RX i) := rb (cd zX) (cx lL)
theorem P9 : J7 x0 x1 x2 x7 x8 x10 H =
 ld [.n, .f 13] x0 H fun d =>
 (ft 7 d none (some x10)).bind fun e =>
 (f3 7 72 (.slice none 0 0) e H).bind fun a =>
 (aA 4 x7 a.2).bind fun g =>
 gC [(0, 1), (1, 1), (2, 1), (3, 4)] [(vi 0), (vi 0), (vi 0), (vi 0), (.slice none 0 0), (vi 0), (vw 0)] [(0, x1), (1, x2), (2, x8), (3, g)] fun i =>
 E5 1 7 [(vi 0), (vi 0), (vi 0), (vi 0), (.slice none 0 0), (vi 0), (vw 0)] [(0, i)] a.2 fun j k =>
 (f3 7 72 a.1 j k).bind fun b =>
 ld [.n, .f 13] x0 b.2 fun l =>
 (ft 7 l (some x10) none).bind fun m =>
 (f3 7 72 b.1 m b.2).bind fun c =>
 st 1 [.n, .f 13] x0 c.1 c.2 fun o =>
 some (Value.tuple #[], o) :=
 (by kernel_rfl)
theorem J6 : M5 x0 x1 x2 x7 x8 x10 H =
 (aq .other .sub x10 (vi 1)).bind fun a =>
 yW x0 x1 x2 x7 x8 a H :=
 (bt rfl (gm [1, 1, 1, 1, 1, 0, 4, 5, 1, 4]) 3 Ji (by kernel_rfl))
theorem uO : C5 x0 x1 x2 x7 x8 x10 H = J7 x0 x1 x2 x7 x8 x10 H :=
 (by kernel_rfl)
theorem AW : yW x0 x1 x2 x7 x8 x10 H =
 (aq .other .gtr x10 (vi 0)).bind fun a =>
 (gV a true x0).bind fun b =>
 fT a true  [.n, .f 13] b H fun c =>
 (gV a true x10).bind fun d =>
 (gB a true (aq .other .sub d (vi 1))).bind fun e =>
 fT a true  [.i 7 e, .f 0] c H fun g =>
 (gV a true x1).bind fun j =>
 (gB a true (aq .other .gtr g j)).bind fun k =>
 (aX a k (vb false)).bind fun l =>
 ax l
 (M5 x0 x1 x2 x7 x8 x10 H)
 (C5 x0 x1 x2 x7 x8 x10 H) :=
 PJ rfl nX (pt rfl 0 Jf (by kernel_rfl))
theorem P8 : Ue x0 x1 x2 x7 x8 x10 H =
 yW x0 x1 x2 x7 x8 x10 H :=
 (pt rfl 0 CF (bt rfl (gm [1, 1, 1, 1, 1, 0, 4]) 2 nZ (li rfl (gm [1, 1, 1, 1, 1, 0, 4, 5]) nX (by kernel_rfl))))
theorem P7 : J5 x0 x1 x2 x7 x8 H =
 ld [.f 1] x7 H fun c =>
 (f3 3 24 (.slice none 0 0) c H).bind fun a =>
 st 1 [.f 1] x7 a.1 a.2 fun b =>
 ld [.n, .f 13] x0 b fun d =>
 mh d fun e =>
 Ue x0 x1 x2 x7 x8 e b :=
 (pt rfl 1 OO (by kernel_rfl))
theorem Ka : yY x0 x1 x2 x7 x8 x9 H =
 (aq .other .add x9 (vi 2)).bind fun a =>
 yX x0 x1 x2 x7 x8 a H :=
 (by kernel_rfl)
theorem J9 : M7 x0 x1 x2 x7 x8 x9 H =
 ld [.n, .f 12] x0 H fun a =>
 ld [.i 1 x9] a H fun b =>
 (aq .other .eql b x2).bind fun c =>
 ax c
 (ld [.n, .f 12] x0 H fun d =>
 (aq .other .add x9 (vi 1)).bind fun e =>
 ld [.i 1 e] d H fun g =>
 yY x0 x1 x2 x7 g x9 H)
 (yY x0 x1 x2 x7 x8 x9 H) :=
 (pt rfl 0 zX (bt rfl (gm [1, 1, 0, 1, 4, 5, 1, 0, 4]) 1 Jj (by kernel_rfl)))
theorem Fo : C6 x0 x1 x2 x7 x8 H = J5 x0 x1 x2 x7 x8 H :=
 (by kernel_rfl)
theorem AX : yX x0 x1 x2 x7 x8 x9 H =
 ld [.n, .f 12] x0 H fun a =>
 mh a fun b =>
 (aq .other .lss x9 b).bind fun c =>
 ax c
 (M7 x0 x1 x2 x7 x8 x9 H)
 (C6 x0 x1 x2 x7 x8 H) :=
 PJ rfl nY (pt rfl 0 Jh (by kernel_rfl))
theorem J8 : M6 x0 x1 x2 x7 x8 x9 H =
 yX x0 x1 x2 x7 x8 x9 H :=
 (bt rfl (gm [1, 1, 0, 1, 4]) 0 lL (li rfl (gm [1, 1, 0, 1, 4, 5]) nY (by kernel_rfl)))
theorem P6 : Ud x0 x1 x2 x7 x8 H =
 M6 x0 x1 x2 x7 x8 (vi 0) H :=
 (pt rfl 0 vI (pt rfl 0 Jg (by kernel_rfl)))
noncomputable def rPN : OV := bn PP GG FF (gm []) (ls [x0, x1, x2, x3] 86) H gn ca gn
theorem Y2 {r : Value × AH} (h : (
 aZ (Value.cells x3).toList H fun a b =>
 Ud x0 x1 x2 a (vi 0) b) = some r) : FF TI [x0, x1, x2, x3] H = some r :=
 fo (t := rPN x0 x1 x2 x3 H) Tryz.func145 (by kernel_rfl) (Eq.trans (pt rfl 1 ON (by kernel_rfl)) h)
theorem uK {r : Value × AH} (h : (
 ad [.n, .f 0] x0 fun b =>
 (ar b H).bind fun d =>
 (FF cr [(vi 10), x2, x3] H).bind fun c =>
 bZ (ar b c.2) (ar b H) <|
 (FF dU [d, x1, c.1] c.2).bind fun a =>
 (aq .other .eql a.1 (vw 0)).bind fun e =>
 ax e
 (some (Value.tuple #[(vi 0), (vi 0), (vb false)], a.2))
 ((aq .other .quo a.1 (vw 4294967296)).bind fun g =>
 (cH (some .i64) g).bind fun i =>
 (aq .other .sub i (vi 1)).bind fun j =>
 (aq .other .rem a.1 (vw 4294967296)).bind fun k =>
 (cH (some .i64) k).bind fun l =>
 some (Value.tuple #[j, l, (vb true)], a.2))) = some r) : FF jL [x0, x1, x2, x3] H = some r :=
 fo Tryz.func146 (by kernel_rfl) h
theorem wm {r : Value × AH} (h : (
 ad [.n, .f 0] x0 fun a =>
 (ar a H).bind fun d =>
 ld [.n, .f 1] x0 H fun e =>
 (FF cr [(vi 11), e, (vi 0)] H).bind fun b =>
 bZ (ar a b.2) (ar a H) <|
 (FF dU [d, x1, b.1] b.2).bind fun c =>
 some (c.1, c.2)) = some r) : FF kA [x0, x1] H = some r :=
 fo Tryz.func147 (by kernel_rfl) h
theorem yb {r : Value × AH} (h : (
 aZ (Value.cells x2).toList H fun b c =>
 (aA 3 b c).bind fun e =>
 (FF cm [x0, x1, (vi 1), e] c).bind fun d =>
 (aA 3 b d.2).bind fun g =>
 (FF AG [x0, g] d.2).bind fun a =>
 ld [.n, .f 1] x0 a.2 fun j =>
 ld [.i 1 a.1] j a.2 fun k =>
 some (k, a.2)) = some r) : FF dU [x0, x1, x2] H = some r :=
 fo Tryz.func148 (by kernel_rfl) h
theorem nH {r : Value × AH} (h : (
 ld [.n, .f 2] x0 H fun a =>
 (cH (some .u64) a).bind fun b =>
 (aq .other .rem x1 b).bind fun c =>
 (cH (some .i64) c).bind fun d =>
 some (d, H)) = some r) : FF ee [x0, x1] H = some r :=
 fo Tryz.func149 (by kernel_rfl) h
theorem wg {r : Value × AH} (h : (
 ad [.n, .f 5] x0 fun a =>
 (ar a H).bind fun d =>
 (FF cr [(vi 2), (vi 0), (vi 0)] H).bind fun b =>
 bZ (ar a b.2) (ar a H) <|
 (FF dU [d, x1, b.1] b.2).bind fun c =>
 some (c.1, c.2)) = some r) : FF ed [x0, x1] H = some r :=
 fo Tryz.func150 (by kernel_rfl) h
theorem wa {r : Value × AH} (h : (
 ad [.n, .f 0] x0 fun a =>
 (ar a H).bind fun c =>
 (FF cr [(vi 3), (vi 0), (vi 0)] H).bind fun b =>
 bZ (ar a b.2) (ar a H) <|
 (FF jX [c, x1, b.1, (vw 1)] b.2).bind fun d =>
 some (Value.tuple #[], d.2)) = some r) : FF io [x0, x1] H = some r :=
 fo Tryz.func151 (by kernel_rfl) h
theorem wb {r : Value × AH} (h : (
 ad [.n, .f 0] x0 fun a =>
 (ar a H).bind fun d =>
 (FF cr [(vi 9), x2, (vi 0)] H).bind fun b =>
 bZ (ar a b.2) (ar a H) <|
 (FF dU [d, x1, b.1] b.2).bind fun c =>
 some (c.1, c.2)) = some r) : FF ky [x0, x1, x2] H = some r :=
 fo Tryz.func152 (by kernel_rfl) h
end
end Go.Proofs.YtflbeghglllknaaGreatDoor.Gst
