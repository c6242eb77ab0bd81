/- Several texts in one. -/
import Derived.Test.YtghoamdlcjdfjaaGreatDoorHa
namespace Go.Proofs.YtghoamdlcjdfjaaGreatDoor.Gst
open Go Go.RowKit
set_option linter.unusedSimpArgs false
def rF (ops : List Oper) : Bool :=
 let ms := bz ops
 ops.zipIdx.all (fun p => p.1.after.toList.all fun e => !Region.binds .any e || decide (e.on < p.2)) &&
 ops.zipIdx.all fun q => (ops.zipIdx.take q.2).all fun p => fb ms p.2 q.2 || (p.1.apart ops.toArray q.1 && !(jm p.1.op == 3 && jm q.1.op == 3))
def cQ (ops : List Oper) : List (Nat × Nat) :=
 let ms := bz ops
 (ops.zipIdx.filter fun p => jm p.1.op == 2).flatMap fun p => ((ops.zipIdx.filter fun q => jm q.1.op == 3 && !fb ms q.2 p.2 && !fb ms p.2 q.2).map fun q => (p.2, q.2))
def ip (P : Program) (G : List Nat) (call : a7) (ops : Array Oper) (A : List Value) (H : AH) (i : Nat) : List Value × AH := (cq P G call ops (ops.toList.take i) A H).getD (A, H)
def ix (P : Program) (s : Nat → List Value × AH) (ops : Array Oper) (p : Nat × Nat) : Prop :=
 ∀ o, ops[p.1]? = some o → zB P (dU (s p.1).1) o.op (s (if p.2 < p.1 then p.2 else p.2 + 1)).2 = zB P (dU (s p.1).1) o.op (s p.1).2
open Classical in
noncomputable def HO {α : Type} (p : Prop) (x : Option α) : Option α := if p then x else none
theorem mf {α : Type} {p : Prop} {x : Option α} {r : α} (h : HO p x = some r) : p ∧ x = some r := by
 unfold HO at h
 split at h
 ·exact ⟨by assumption, h⟩
 ·cases h
theorem i3 {α : Type} {p : Prop} (h : p) (x : Option α) : HO p x = x := by unfold HO; rw [if_pos h]
noncomputable def kZ (P : Program) (G : List Nat) (call : a7) (ops : Array Oper) (A : List Value) (H : AH) : Option (List Value × AH) :=
 match rF ops.toList with
 | false => none
 | true => match cQ ops.toList with
  | [] => cq P G call ops ops.toList A H
  | p :: ps => HO (∀ q ∈ p :: ps, ix P (ip P G call ops A H) ops q) (cq P G call ops ops.toList A H)
theorem eO {P : Program} {G : List Nat} {call : a7} {ops : Array Oper} {A : List Value} {H : AH} {r : List Value × AH} (h : kZ P G call ops A H = some r) :
 rF ops.toList = true ∧ (∀ p ∈ cQ ops.toList, ix P (ip P G call ops A H) ops p) ∧ cq P G call ops ops.toList A H = some r := by
 unfold kZ at h
 cases h1 : rF ops.toList with
 | false => rw [h1] at h; cases h
 | true =>
  rw [h1] at h;refine ⟨rfl, ?_⟩
  cases h2 : cQ ops.toList with
  | nil => rw [h2] at h; exact ⟨fun p hp => (by cases hp), h⟩
  | cons p ps =>
   rw [h2] at h;exact mf h
section
variable {P : Program} {w0 : World} {B : Nat} {ρ : bg} {H : AH} {w : World} {G : List Nat} {call : a7} {ops : Array Oper}
theorem wR (l1 l2 : List Oper) (A : List Value) (H : AH) : cq P G call ops (l1 ++ l2) A H = (cq P G call ops l1 A H).bind fun s => cq P G call ops l2 s.1 s.2 := by
 induction l1 generalizing A H with
 | nil => rfl
 | cons o l ih =>
  simp only [List.cons_append, cq];rw [Option.bind_assoc]
  congr 1
  funext s
  exact ih s.1 s.2
theorem uV {A : List Value} {r : List Value × AH} (h : cq P G call ops ops.toList A H = some r) (i : Nat) : cq P G call ops (ops.toList.take i) A H = some (ip P G call ops A H i) := by
 unfold ip;have e : ops.toList = ops.toList.take i ++ ops.toList.drop i := (List.take_append_drop ..).symm;rw [e, wR] at h;obtain ⟨s, hs, _⟩ := az.1 h;rw [hs]; rfl
theorem Yy (A : List Value) : ip P G call ops A H 0 = (A, H) := rfl
theorem abI {A : List Value} {r : List Value × AH} (h : cq P G call ops ops.toList A H = some r) : ip P G call ops A H ops.size = r := by
 unfold ip;rw [show ops.size = ops.toList.length by simp, List.take_length, h]
 rfl
theorem Jh {A : List Value} {r : List Value × AH} (h : cq P G call ops ops.toList A H = some r) {i : Nat} {o : Oper} (ho : ops[i]? = some o) :
 eR P G call ops o (ip P G call ops A H i).1 (ip P G call ops A H i).2 = some (ip P G call ops A H (i + 1)) := by
 have ho' : ops.toList[i]? = some o := by simpa using ho
 have h1 := uV h (i + 1);rw [List.take_add_one, ho', Option.toList_some, wR, uV h i] at h1;simp only [be, cq] at h1;obtain ⟨s, hs, e⟩ := az.1 h1;rw [hs];exact e
noncomputable def afS (P : Program) (G : List Nat) (call : a7) (ops : Array Oper) (A : List Value) (H : AH) (i : Nat) : Value :=
 match ops[i]? with
 | some o => if Region.wanted o (cL ops (ip P G call ops A H i).1) = true then ((dp P call (dU (ip P G call ops A H i).1) o (ip P G call ops A H i).2).map (·.1)).getD undef else undef
 | none => undef
theorem Mo (h : rF ops.toList = true) : ∀ j o, ops[j]? = some o → ∀ e ∈ o.after, Region.binds .any e = true → e.on < j := by
 intro j o ho e he hb;unfold rF at h;simp only [Bool.and_eq_true, List.all_eq_true] at h
 have ho' : ops.toList[j]? = some o := by simpa using ho
 have hm : (o, j) ∈ ops.toList.zipIdx := by
  rw [List.mem_iff_getElem?];exact ⟨j, by rw [List.getElem?_zipIdx, ho']; simp⟩
 have := h.1 (o, j) hm e (by simpa using he)
 simpa [hb] using this
theorem Mq (h : rF ops.toList = true) : ∀ i j oi oj, i < j → ops[i]? = some oi → ops[j]? = some oj → fb (bz ops.toList) i j = true ∨ (oi.apart ops oj = true ∧ ¬ (jm oi.op = 3 ∧ jm oj.op = 3)) := by
 intro i j oi oj hij hi hj;unfold rF at h;simp only [Bool.and_eq_true, List.all_eq_true] at h
 have hi' : ops.toList[i]? = some oi := by simpa using hi
 have hj' : ops.toList[j]? = some oj := by simpa using hj
 have hm : (oj, j) ∈ ops.toList.zipIdx := by
  rw [List.mem_iff_getElem?];exact ⟨j, by rw [List.getElem?_zipIdx, hj']; simp⟩
 have hm2 : (oi, i) ∈ ops.toList.zipIdx.take j := by
  rw [List.mem_iff_getElem?];exact ⟨i, by rw [List.getElem?_take, if_pos hij, List.getElem?_zipIdx, hi']; simp⟩
 have := h.2 (oj, j) hm (oi, i) hm2;simp only [Bool.or_eq_true, Bool.and_eq_true, Bool.not_eq_true', Bool.and_eq_false_iff, beq_eq_false_iff_ne, Array.toArray_toList] at this
 rcases this with h1 | ⟨h1, h2⟩
 ·exact .inl h1
 ·exact .inr ⟨h1, fun h3 => by rcases h2 with h2 | h2; exact h2 h3.1; exact h2 h3.2⟩
theorem CH {j e : Nat} {oj oe : Oper} (hj : ops[j]? = some oj) (he : ops[e]? = some oe) (h2 : jm oj.op = 2) (h3 : jm oe.op = 3) (hf1 : fb (bz ops.toList) e j = false) (hf2 : fb (bz ops.toList) j e = false) : (j, e) ∈ cQ ops.toList := by
 have hj' : ops.toList[j]? = some oj := by simpa using hj
 have he' : ops.toList[e]? = some oe := by simpa using he
 unfold cQ;simp only [List.mem_flatMap, List.mem_filter, List.mem_map];refine ⟨(oj, j), ⟨?_, by simp [h2]⟩, (oe, e), ⟨?_, by simp [h3, hf1, hf2]⟩, rfl⟩
 ·rw [List.mem_iff_getElem?]; exact ⟨j, by rw [List.getElem?_zipIdx, hj']; simp⟩
 ·rw [List.mem_iff_getElem?]; exact ⟨e, by rw [List.getElem?_zipIdx, he']; simp⟩
noncomputable def acI {A : List Value} {r : List Value × AH} (h : kZ P G call ops A H = some r) : Tra P G call ops where
 s := ip P G call ops A H
 val := afS P G call ops A H
 step := fun i o ho => by
  obtain ⟨_, _, hr⟩ := eO h;have hs := Jh hr ho;unfold eR at hs
  split at hs
  ·rename_i hok
   refine ⟨hok, ?_⟩;unfold afS;rw [ho];simp only
   split at hs
   ·rename_i hw
    obtain ⟨⟨v, H2⟩, hv, e⟩ := aN.1 hs;rw [if_pos hw, hv, ← e];exact ⟨rfl, .inl ⟨hw, rfl⟩⟩
   ·rename_i hw
    rw [if_neg hw];have e := (eu hs).symm;rw [e];exact ⟨rfl, .inr ⟨by simpa using hw, rfl, rfl⟩⟩
  ·cases hs
 back := Mo (eO h).1
 pair := Mq (eO h).1
 look := fun j e oj oe hj he h2 h3 hf1 hf2 => (eO h).2.1 (j, e) (CH hj he h2 h3 hf1 hf2) oj hj
theorem J5 (hcall : j9 P G call) (hmono : fP call) (hm : P.follows .mixedOrders = true) {id : Nat} {Q : Exit → Act → World → Prop} {A : List Value} {a : Act} {A' : List Value} {H' : AH} (h : kZ P G call ops A H = some (A', H'))
 (hA : bJ P ρ A a) (hG : GlobRel ρ G) (hR : Rel P w0 B ρ H w) (hQ : ∀ a' w', zv P w0 B G ρ H w A' H' a' w' → Q .normal a' w') : (Code.region id ops true).wp P Q a w := by
 have W : Way (acI h) w0 B ρ w.drew := ⟨hcall, hmono, hG, hR.drew, ⟨a, hA⟩⟩;refine Mr W hm (w := w) rfl hA (fun a' w' hp => hQ a' w' ?_);obtain ⟨ρ', h1, h2, h3, h4⟩ := hp;have e : (acI h).s ops.size = (A', H') := abI (eO h).2.2;rw [e] at h1 h3 h4;exact ⟨ρ', h1, h2, gG.of_drew h3, h4⟩
end
inductive AE where
 | normal
 | exit (id : Nat)
 | ret
deriving DecidableEq
abbrev AR := AE × List Value × AH
def dD (f : List Value → AH → Option AR) : Nat → List Value → AH → Option AR
 | 0, _, _ => none
 | n + 1, A, H => (f A H).bind fun r => match r.1 with
  | .normal => dD f n r.2.1 r.2.2
  | _ => some r
theorem zz {f : List Value → AH → Option AR} {n : Nat} {A : List Value} {H : AH} {r : AR} (h : dD f n A H = some r) : ∀ m, n ≤ m → dD f m A H = some r := by
 induction n generalizing A H with
 | zero => cases h
 | succ n ih =>
  intro m hm;obtain ⟨m, rfl⟩ : ∃ k, m = k + 1 := ⟨m - 1, by omega⟩;simp only [dD] at h ⊢;obtain ⟨s, hs, h⟩ := az.1 h;rw [hs];simp only [be]
  split at h
  ·exact ih h m (by omega)
  ·exact h
open Classical in
noncomputable def nP (f : List Value → AH → Option AR) (A : List Value) (H : AH) : Option AR := if h : ∃ n r, dD f n A H = some r then some h.choose_spec.choose else none
theorem cp {f : List Value → AH → Option AR} {A : List Value} {H : AH} {r : AR} : nP f A H = some r ↔ ∃ n, dD f n A H = some r := by
 unfold nP
 constructor
 ·intro h
  split at h
  ·rename_i hx
   cases h;exact ⟨_, hx.choose_spec.choose_spec⟩
  ·cases h
 ·rintro ⟨n, hn⟩
  have hx : ∃ n r, dD f n A H = some r := ⟨n, r, hn⟩;rw [dif_pos hx];have h1 := zz hx.choose_spec.choose_spec (max n hx.choose) (Nat.le_max_right ..);have h2 := zz hn (max n hx.choose) (Nat.le_max_left ..);rw [h2] at h1;exact h1.symm
theorem UE (f : List Value → AH → Option AR) (A : List Value) (H : AH) : nP f A H = (f A H).bind fun r => match r.1 with | .normal => nP f r.2.1 r.2.2 | _ => some r := by
 apply Option.ext;intro r;rw [cp]
 constructor
 ·rintro ⟨n, hn⟩
  cases n with
  | zero => cases hn
  | succ n =>
   simp only [dD] at hn;obtain ⟨s, hs, h⟩ := az.1 hn;rw [hs];simp only [be]
   split at h
   ·exact cp.2 ⟨n, h⟩
   ·exact h
 ·intro h
  obtain ⟨s, hs, h⟩ := az.1 h
  split at h
  ·rename_i e
   obtain ⟨n, hn⟩ := cp.1 h;refine ⟨n + 1, ?_⟩;simp only [dD, hs, be, e];exact hn
  ·rename_i e
   refine ⟨1, ?_⟩;simp only [dD, hs, be];exact h
noncomputable def eC (P : Program) (G : List Nat) (call : a7) (ops : Array Oper) (draw : Bool) (A : List Value) (H : AH) : Option (List Value × AH) :=
 match draw with
 | true => kZ P G call ops A H
 | false => cq P G call ops ops.toList A H
noncomputable def aI (P : Program) (G : List Nat) (call : a7) : Code → List Value → AH → Option AR
 | .skip, A, H => some (.normal, A, H)
 | .label _, A, H => some (.normal, A, H)
 | .region _ ops draw, A, H => (eC P G call ops draw A H).map fun s => (.normal, s.1, s.2)
 | .seq x y, A, H => (aI P G call x A H).bind fun r => match r.1 with
  | .normal => aI P G call y r.2.1 r.2.2
  | _ => some r
 | .cond c x y, A, H => match dU A c with
  | .bool true => aI P G call x A H
  | .bool false => aI P G call y A H
  | _ => none
 | .block id x, A, H => (aI P G call x A H).map fun r => match r.1 with
  | .exit i => if i = id then (.normal, r.2.1, r.2.2) else r
  | _ => r
 | .loop x, A, H => nP (aI P G call x) A H
 | .exit id, A, H => some (.exit id, A, H)
 | .ret, A, H => some (.ret, A, H)
 | _, _, _ => none
def AE.to : AE → Exit
 | .normal => .normal
 | .exit id => .exit id
 | .ret => .ret
section
variable {P : Program} {w0 : World} {B : Nat} {G : List Nat} {call : a7}
theorem zv.trans {ρ ρ1 : bg} {H H1 H2 : AH} {w w1 w2 : World} {A2 : List Value} {a2 : Act} (hR : Rel P w0 B ρ H w) (hE : gG ρ H w ρ1 H1 w1) (h : zv P w0 B G ρ1 H1 w1 A2 H2 a2 w2) : zv P w0 B G ρ H w A2 H2 a2 w2 := by
 obtain ⟨ρ', h1, h2, h3, h4⟩ := h;exact ⟨ρ', h1, h2, hE.trans hR h3, h4⟩
theorem zV (hcall : j9 P G call) (hmono : fP call) (hm : P.follows .mixedOrders = true) : ∀ (c : Code) {Q : Exit → Act → World → Prop} {ρ : bg} {A : List Value} {H : AH} {a : Act} {w : World} {e : AE} {A' : List Value} {H' : AH},
 aI P G call c A H = some (e, A', H') → bJ P ρ A a → GlobRel ρ G → Rel P w0 B ρ H w → (∀ a' w', zv P w0 B G ρ H w A' H' a' w' → Q e.to a' w') → c.wp P Q a w := by
 intro c
 induction c with
 | skip =>
  intro Q ρ A H a w e A' H' h hA hG hR hQ;simp only [aI] at h; cases h;exact wp_skip (hQ a w ⟨ρ, hA, hG, gG.refl _ _ _, hR⟩)
 | label l =>
  intro Q ρ A H a w e A' H' h hA hG hR hQ;simp only [aI] at h; cases h;exact wp_label (hQ a w ⟨ρ, hA, hG, gG.refl _ _ _, hR⟩)
 | exit id =>
  intro Q ρ A H a w e A' H' h hA hG hR hQ;simp only [aI] at h; cases h;exact wp_exit (hQ a w ⟨ρ, hA, hG, gG.refl _ _ _, hR⟩)
 | ret =>
  intro Q ρ A H a w e A' H' h hA hG hR hQ;simp only [aI] at h; cases h;exact wp_ret (hQ a w ⟨ρ, hA, hG, gG.refl _ _ _, hR⟩)
 | region id ops draw =>
  intro Q ρ A H a w e A' H' h hA hG hR hQ;simp only [aI] at h;obtain ⟨⟨A1, H1⟩, hs, e1⟩ := aN.1 h;cases e1
  cases draw with
  | true => exact J5 hcall hmono hm hs hA hG hR hQ
  | false => exact I8 hcall hs hA hG hR hQ
 | seq x y ihx ihy =>
  intro Q ρ A H a w e A' H' h hA hG hR hQ;simp only [aI] at h;obtain ⟨⟨e1, A1, H1⟩, hx, h⟩ := az.1 h;refine wp_seq (ihx hx hA hG hR (fun a1 w1 hp => ?_))
  cases e1 with
  | normal =>
   simp only at h;obtain ⟨ρ1, hA1, hG1, hE1, hR1⟩ := hp;exact ihy h hA1 hG1 hR1 (fun a' w' hp => hQ a' w' (hp.trans hR hE1))
  | exit id => simp only at h; cases h; exact hQ a1 w1 hp
  | ret => simp only at h; cases h; exact hQ a1 w1 hp
 | cond c x y ihx ihy =>
  intro Q ρ A H a w e A' H' h hA hG hR hQ;simp only [aI] at h
  have hc : ∀ t, dU A c = .bool t → a.eval c = .bool t := by
   intro t ht
   cases c with
   | tmp u =>
    simp only [dU] at ht
    cases hx : A[u]? with
    | none => rw [hx] at ht; simp [undef] at ht
    | some x =>
     rw [hx] at ht;simp only [Option.getD_some] at ht;subst ht;obtain ⟨y, hy, hv⟩ := hA.tmps.get hx;rw [Array.getElem?_toList] at hy;simp only [Act.eval, Array.getD_eq_getD_getElem?, hy, Option.getD_some];exact hv.bool_inv
   | const v => exact ht
   | global g => cases ht
   | func f => cases ht
  split at h
  ·rename_i ht; exact wp_cond (hc _ ht) (ihx h hA hG hR hQ)
  ·rename_i ht; exact wp_cond (hc _ ht) (ihy h hA hG hR hQ)
  ·cases h
 | block id x ih =>
  intro Q ρ A H a w e A' H' h hA hG hR hQ;simp only [aI] at h;obtain ⟨⟨e1, A1, H1⟩, hx, e2⟩ := aN.1 h;refine wp_block (ih hx hA hG hR (fun a1 w1 hp => ?_))
  cases e1 with
  | normal => simp only at e2; cases e2; exact hQ a1 w1 hp
  | ret => simp only at e2; cases e2; exact hQ a1 w1 hp
  | exit i =>
   simp only at e2;simp only [AE.to, Exit.inBlock]
   split at e2
   ·rename_i hi; cases e2; rw [if_pos hi]; exact hQ a1 w1 hp
   ·rename_i hi; cases e2; rw [if_neg hi]; exact hQ a1 w1 hp
 | loop x ih =>
  intro Q ρ A H a w e A' H' h hA hG hR hQ;simp only [aI] at h;obtain ⟨n, hn⟩ := cp.1 h;refine wp_loop_rounds n ?_
  clear h
  induction n generalizing ρ A H a w with
  | zero => cases hn
  | succ n ihn =>
   simp only [dD] at hn;obtain ⟨⟨e1, A1, H1⟩, hx, h⟩ := az.1 hn;rw [rounds_succ];refine ih hx hA hG hR (fun a1 w1 hp => ?_)
   cases e1 with
   | normal =>
    simp only at h;obtain ⟨ρ1, hA1, hG1, hE1, hR1⟩ := hp;exact ihn hA1 hG1 hR1 (fun a' w' hp => hQ a' w' (hp.trans hR hE1)) h
   | exit id => simp only at h; cases h; exact hQ a1 w1 hp
   | ret => simp only at h; cases h; exact hQ a1 w1 hp
 | rangeFunc f ps x y => intro Q ρ A H a w e A' H' h; simp [aI] at h
 | scope x => intro Q ρ A H a w e A' H' h; simp [aI] at h
 | goto l => intro Q ρ A H a w e A' H' h; simp [aI] at h
 | refuse s => intro Q ρ A H a w e A' H' h; simp [aI] at h
theorem pW (hm : fP call) {ops : Array Oper} : ∀ (l : List Oper) {A : List Value} {H : AH} {r : List Value × AH}, cq P G call ops l A H = some r → H.size ≤ r.2.size := by
 intro l
 induction l with
 | nil => intro A H r h; simp only [cq] at h; cases h; exact bm _
 | cons o l ih =>
  intro A H r h;simp only [cq] at h;obtain ⟨s, hs, h⟩ := az.1 h;refine ep ?_ (ih h);unfold eR at hs
  split at hs
  ·split at hs
   ·obtain ⟨⟨v, H2⟩, hv, e⟩ := aN.1 hs
    cases e; exact Hw hm hv
   ·cases hs; exact bm _
  ·cases hs
theorem zx (hm : fP call) : ∀ (c : Code) {A : List Value} {H : AH} {r : AR}, aI P G call c A H = some r → H.size ≤ r.2.2.size := by
 intro c
 induction c with
 | skip => intro A H r h; simp only [aI] at h; cases h; exact bm _
 | label l => intro A H r h; simp only [aI] at h; cases h; exact bm _
 | exit id => intro A H r h; simp only [aI] at h; cases h; exact bm _
 | ret => intro A H r h; simp only [aI] at h; cases h; exact bm _
 | region id ops draw =>
  intro A H r h;simp only [aI] at h;obtain ⟨s, hs, e1⟩ := aN.1 h;cases e1
  cases draw with
  | true => exact pW hm _ (eO hs).2.2
  | false => exact pW hm _ hs
 | seq x y ihx ihy =>
  intro A H r h;simp only [aI] at h;obtain ⟨s, hx, h⟩ := az.1 h;have h1 := ihx hx
  split at h
  ·exact ep h1 (ihy h)
  ·cases h; exact h1
 | cond c x y ihx ihy =>
  intro A H r h;simp only [aI] at h
  split at h
  ·exact ihx h
  ·exact ihy h
  ·cases h
 | block id x ih =>
  intro A H r h;simp only [aI] at h;obtain ⟨s, hx, e2⟩ := aN.1 h;have h1 := ih hx
  split at e2
  ·split at e2 <;> (subst e2; exact h1)
  ·subst e2; exact h1
 | loop x ih =>
  intro A H r h;simp only [aI] at h;obtain ⟨n, hn⟩ := cp.1 h
  clear h
  induction n generalizing A H with
  | zero => cases hn
  | succ n ihn =>
   simp only [dD] at hn;obtain ⟨s, hx, h⟩ := az.1 hn;have h1 := ih hx
   split at h
   ·exact ep h1 (ihn h)
   ·cases h; exact h1
 | rangeFunc f ps x y => intro A H r h; simp [aI] at h
 | scope x => intro A H r h; simp [aI] at h
 | goto l => intro A H r h; simp [aI] at h
 | refuse s => intro A H r h; simp [aI] at h
end
def jC (P : Program) (A : List Value) (H : AH) : ResultVar → Option Value
 | .tmp t => some (A[t]?.getD undef)
 | .cell a t => (dS P t).bind fun g => match g with
  | some n => ax n (A[a]?.getD undef) H
  | none => ap (A[a]?.getD undef) H
def qT (P : Program) (A : List Value) (H : AH) : List ResultVar → Option (List Value)
 | [] => some []
 | r :: rs => (jC P A H r).bind fun v => (qT P A H rs).bind fun vs => some (v :: vs)
def gI (P : Program) (A : List Value) (H : AH) (rs : List ResultVar) : Option Value := (qT P A H rs).map fun vs => match vs with
 | [v] => v
 | vs => .tuple vs.toArray
def UD (P : Program) (rs : List ResultVar) (r : AR) : Option (Value × AH) :=
 match r.1 with
 | .exit _ => none
 | _ => (gI P r.2.1 r.2.2 rs).map (·, r.2.2)
noncomputable def nO (P : Program) (G : List Nat) (call : a7) (n : Nat) (rs : List ResultVar) (c : Code) (args : List Value) (H : AH) : Option (Value × AH) :=
 (aI P G call c (args ++ List.replicate (n - args.length) undef) H).bind (UD P rs)
structure DSh where
 c1 : Code
 id2 : Nat
 ops2 : Array Oper
 om : Oper
 df : Oper
 t : Nat
 k : Nat
 id3 : Nat
 ops3 : Array Oper
def jo : Code → Option DSh
 | .seq c1 (.seq (.region id2 ops2 false) (.seq (.region id3 ops3 false) .ret)) => match ops2.toList with
  | [mk, df] => match mk.dst, mk.op, mk.guard, df.dst, df.op, df.guard with
   | some t, .makeFunc (.func k) first _, none, none, .defer ⟨.value (.tmp t'), args, _⟩, none => if t = t' ∧ first = #[] ∧ args = #[] then some ⟨c1, id2, ops2, mk, df, t, k, id3, ops3⟩ else none
   | _, _, _, _, _, _ => none
  | _ => none
 | _ => none
theorem HU {c : Code} {s : DSh} (h : jo c = some s) : c = .seq s.c1 (.seq (.region s.id2 s.ops2 false) (.seq (.region s.id3 s.ops3 false) .ret)) ∧ s.ops2.toList = [s.om, s.df] ∧ s.om.dst = some s.t ∧
 (∃ cap, s.om.op = .makeFunc (.func s.k) #[] cap) ∧ s.om.guard = none ∧ s.df.dst = none ∧ (∃ ats, s.df.op = .defer ⟨.value (.tmp s.t), #[], ats⟩) ∧ s.df.guard = none := by
 unfold jo at h
 split at h
 ·split at h
  ·rename_i hl
   split at h
   ·rename_i h1 h2 h3 h4 h5 h6
    split at h
    ·rename_i hc
     obtain ⟨rfl, rfl, rfl⟩ := hc;cases h;exact ⟨rfl, hl, h1, ⟨_, h2⟩, h3, h4, ⟨_, h5⟩, h6⟩
    ·cases h
   ·cases h
  ·cases h
 ·cases h
def sN (P : Program) (k : Nat) : Prop :=
 (∃ fn, P.funcs[k]? = some fn ∧ fn.body.isSome = true ∧ fn.name ≠ "runtime.NumGoroutine") ∧
 ∀ (args : Array Value) (w : World), CallsD P k args .returning w fun e u' w' => (∃ v, e = .returned v) ∧ u' = .returning ∧ w' = w
noncomputable def mZ (P : Program) (G : List Nat) (call : a7) (n : Nat) (rs : List ResultVar) (s : DSh) (args : List Value) (H : AH) : Option (Value × AH) :=
 (aI P G call s.c1 (args ++ List.replicate (n - args.length) undef) H).bind fun r => match r.1 with
  | .normal => if r.2.1.length ≤ s.t then none else (eR P G call s.ops2 s.om r.2.1 r.2.2).bind fun q => (cq P G call s.ops3 s.ops3.toList q.1 q.2).bind fun z => (gI P z.1 z.2 rs).map (·, z.2)
  | _ => none
noncomputable def dR (P : Program) (G : List Nat) : Nat → a7
 | 0 => fun _ _ _ => none
 | d + 1 => fun f args H => match P.funcs[f]? with
  | some fn => if fn.name = "runtime.NumGoroutine" then none else match fn.body with
   | some c => match jo c with
    | none => nO P G (dR P G d) fn.ntmps fn.results.toList c args H
    | some s => HO (sN P s.k) (mZ P G (dR P G d) fn.ntmps fn.results.toList s args H)
   | none => none
  | none => none
section
variable {P : Program} {w0 : World} {B : Nat} {ρ : bg} {H : AH} {w : World} {G : List Nat} {call : a7}
theorem Mx {A : List Value} {a : Act} (hA : bJ P ρ A a) (hR : Rel P w0 B ρ H w) {r : ResultVar} {v : Value} (h : jC P A H r = some v) :
 ∃ v', (match r with | .tmp t => pure (a.tmps.getD t undef) | .cell x t => do loadVar t (← asAddr (a.tmps.getD x undef)) : Sem Value).run P w = .ok v' w ∧ VRel P ρ v v' := by
 have slot : ∀ t, VRel P ρ (A[t]?.getD undef) (a.tmps.getD t undef) := fun t => ve (G := []) hA (fun g hg => by simp at hg) (x := .tmp t) rfl
 cases r with
 | tmp t => simp only [jC] at h; cases h; exact ⟨_, rfl, slot t⟩
 | cell x t =>
  simp only [jC] at h;obtain ⟨g, hg, h⟩ := az.1 h
  cases g with
  | none =>
   obtain ⟨a', y', ha, hr, hv⟩ := Xn hR h (slot x);refine ⟨y', ?_, hv⟩;simp only [ha];simp [asAddr, loadVar, m0 hg]
   simpa using hr
  | some n =>
   obtain ⟨a', ys, ha, hr, hv⟩ := IF hR h (slot x);obtain ⟨hag, hsz⟩ := m6 hg w;refine ⟨.agg ys, ?_, hv⟩;simp only [ha];simp [asAddr, loadVar, hag, cf hsz, hr]
theorem Xt {A : List Value} {a : Act} (hA : bJ P ρ A a) (hR : Rel P w0 B ρ H w) : ∀ {rs : List ResultVar} {vs : List Value}, qT P A H rs = some vs →
 ∃ vs', (rs.mapM (fun r => (match r with | .tmp t => pure (a.tmps.getD t undef) | .cell x t => do loadVar t (← asAddr (a.tmps.getD x undef)) : Sem Value))).run P w = .ok vs' w ∧ LRel P ρ vs vs' := by
 intro rs
 induction rs with
 | nil => intro vs h; simp only [qT] at h; cases h; exact ⟨[], rfl, LRel.nil⟩
 | cons r rs ih =>
  intro vs h;simp only [qT] at h;obtain ⟨v, hv, h⟩ := az.1 h;obtain ⟨vs0, hvs, h⟩ := az.1 h;cases h;obtain ⟨v', hr, hv'⟩ := Mx hA hR hv;obtain ⟨vs', hrs, hvs'⟩ := ih hvs;refine ⟨v' :: vs', ?_, hvs'.cons hv'⟩;rw [List.mapM_cons];simp only [Sem.run_bind, hr, Result.andThen_ok, hrs, Sem.run_pure]
theorem xq {A : List Value} {a : Act} (hA : bJ P ρ A a) (hR : Rel P w0 B ρ H w) {fn : Func} {v : Value} (h : gI P A H fn.results.toList = some v) :
 ∃ v', (results fn a.tmps).run P w = .ok v' w ∧ VRel P ρ v v' := by
 unfold gI at h;obtain ⟨vs, hvs, e⟩ := aN.1 h;obtain ⟨vs', hrun, hl⟩ := Xt hA hR hvs
 have hm : ∀ g : ResultVar → Sem Value, (fn.results.mapM g).run P w = ((fn.results.toList.mapM g >>= fun l => pure l.toArray : Sem (Array Value))).run P w := by
  intro g;rw [Array.mapM_eq_mapM_toList]
  rfl
 have h2 : (results fn a.tmps).run P w = .ok (if h : vs'.toArray.size = 1 then vs'.toArray[0] else .tuple vs'.toArray) w := by
  unfold results;rw [Sem.run_bind, hm, Sem.run_bind]
  erw [hrun]
  rfl
 refine ⟨_, h2, ?_⟩;have hlen := hl.1
 split at e
 ·rename_i x
  subst e
  match vs', hlen, hl with
  | [y], _, hl => simpa using hl.2 0 _ _ rfl rfl
 ·rename_i hne
  subst e
  have : ¬ vs'.toArray.size = 1 := by
   intro h1
   match vs, hlen, hne with
   | [x], _, hne => exact hne x rfl
   | [], hlen, _ => simp at hlen h1; omega
   | x :: y :: zs, hlen, _ => simp at hlen h1; omega
  rw [dif_neg this];exact .tuple (by simp [hlen]) (fun i x y hx hy => hl.2 i x y (by simpa using hx) (by simpa using hy))
theorem LI (hcall : j9 P G call) {ops : Array Oper} (ds : List Deferred) {Q : Exit → Act → World → Prop} : ∀ (l : List Oper) {ρ : bg} {A : List Value} {H : AH} {a : Act} {w : World} {A' : List Value} {H' : AH}, cq P G call ops l A H = some (A', H') →
 bJ P ρ A a → GlobRel ρ G → Rel P w0 B ρ H w → (∀ a' w', zv P w0 B G ρ H w A' H' a' w' → Q .normal { a' with defers := ds } w') → wpList P ops Q l { a with defers := ds } w := by
 intro l
 induction l with
 | nil =>
  intro ρ A H a w A' H' h hA hG hR hQ;simp only [cq] at h;cases h;exact hQ a w ⟨ρ, hA, hG, gG.refl _ _ _, hR⟩
 | cons o rest ih =>
  intro ρ A H a w A' H' h hA hG hR hQ;simp only [cq] at h;obtain ⟨⟨A1, H1⟩, hs, h⟩ := az.1 h;simp only at h;unfold eR at hs
  split at hs
  ·rename_i hok
   unfold wpList;have hwr := sI hA ops o;rw [show Region.wanted o (yielded ops ({ a with defers := ds } : Act).tmps) = Region.wanted o (cL ops A) from hwr]
   split at hs
   ·rename_i hw
    rw [if_pos hw];obtain ⟨⟨v, H2⟩, ho, e⟩ := aN.1 hs;cases e;have hr := tY hcall hA hG hR hok ho;refine .inl (dC.wp (a := { a with defers := ds }) (dC.congr hr rfl) (fun v' w' hv => ?_));obtain ⟨ρ', hv, hE, hR'⟩ := hv;have := ih (a := a.put o.dst v') h (iU (hA.mono hE.le) o.dst hv) (hG.mono hE.le) hR' (fun a' w'' hp => hQ a' w'' (hp.trans hR hE))
    have e : ({ a.put o.dst v' with defers := ds } : Act) = ({ a with defers := ds } : Act).put o.dst v' := by cases o.dst <;> rfl
    rw [e] at this;exact this
   ·rename_i hw
    rw [if_neg hw];cases hs;have := ih (a := a.put o.dst undef) h (iU hA o.dst VRel.undef) hG hR hQ
    have e : ({ a.put o.dst undef with defers := ds } : Act) = ({ a with defers := ds } : Act).put o.dst undef := by cases o.dst <;> rfl
    rw [e] at this;exact this
  ·cases hs
theorem HT (hcall : j9 P G call) (hmono : fP call) (hm : P.follows .mixedOrders = true) {f : Nat} {fn : Func} {c : Code} {s : DSh} (hf : P.funcs[f]? = some fn) (hb : fn.body = some c) (hd : jo c = some s)
 {args : List Value} {args' : Array Value} {v : Value} {H' : AH} (h : HO (sN P s.k) (mZ P G call fn.ntmps fn.results.toList s args H) = some (v, H'))
 (hA : bJ P ρ (args ++ List.replicate (fn.ntmps - args.length) undef) { tmps := args' ++ Array.replicate (fn.ntmps - args'.size) undef, defers := [] }) (hG : GlobRel ρ G) (hR : Rel P w0 B ρ H w) :
 Calls P f args' w fun e w' => ∃ v' ρ', e = .returned v' ∧ VRel P ρ' v v' ∧ gG ρ H w ρ' H' w' ∧ Rel P w0 B ρ' H' w' := by
 obtain ⟨⟨⟨fk, hfk, hbk, hnk⟩, hcd⟩, h⟩ := mf h;obtain ⟨hc, hl2, hdst, ⟨cap, hop⟩, hg, hdd, ⟨ats, hdo⟩, hdg⟩ := HU hd;unfold mZ at h;obtain ⟨⟨e1, A1, H1⟩, h1, h⟩ := az.1 h
 cases e1 with
 | exit i => cases h
 | ret => cases h
 | normal =>
  simp only at h
  split at h
  ·cases h
  rename_i hlt
  obtain ⟨⟨A2, H2⟩, h2, h⟩ := az.1 h;obtain ⟨⟨A3, H3⟩, h3, h⟩ := az.1 h;obtain ⟨x, hx, e⟩ := aN.1 h;cases e;refine calls_of_wp_defers hf hb ?_;rw [hc];refine wp_seq (zV hcall hmono hm s.c1 h1 hA hG hR (fun a1 w1 hp => ?_));obtain ⟨ρ1, hA1, hG1, hE1, hR1⟩ := hp;refine wp_seq (wp_region_list ?_);rw [hl2];have hd1 : a1.defers = [] := hA1.defers;unfold eR at h2
  split at h2
  ·rename_i hok
   have hwt : Region.wanted s.om (cL s.ops2 A1) = true := by simp [Region.wanted, hg]
   rw [if_pos hwt] at h2;obtain ⟨⟨y, H2'⟩, ho, e⟩ := aN.1 h2;cases e;refine wpList_plain hg (fun K hK => dC.wp (tY hcall hA1 hG1 hR1 hok ho) (fun v' w2 hv => hK _ _ ?_));obtain ⟨ρ2, hv, hE2, hR2⟩ := hv
   have hy : y = .func (.func s.k) #[] (cap.map (dU A1)) := by
    unfold dp at ho;rw [hop] at ho;simp at ho;exact ho.1.symm
   rw [hy] at hv;obtain ⟨f', c', rfl, hf', _⟩ := hv.func_inv
   have hf0 : f' = #[] := by
    have := hf'.1;simp at this;exact Array.eq_empty_of_size_eq_zero (by simpa using this.symm)
   subst hf0;refine wpList_plain hdg (fun K' hK' => ?_)
   have ht : (a1.put s.om.dst (.func (.func s.k) #[] c')).eval (.tmp s.t) = .func (.func s.k) #[] c' := by
    have hsz : s.t < a1.tmps.size := by have := hA1.tmps.1; simp at this; omega
    rw [hdst];simp [Act.put, Act.eval, hsz, Array.getD]
   have hrun : (execOp (a1.put s.om.dst (.func (.func s.k) #[] c')).eval s.df).run P w2 = .ok (.defer { target := .fn (.func s.k) c', args := #[] }) w2 := by
    simp [execOp, hdo, resolve, ht, Deferred.ofValue]
   unfold Oper.wp;rw [hrun, Oper.upon_defer];refine hK' _ _ (wpList_nil ?_);rw [hdd];have hA2 := iU (hA1.mono hE2.le) s.om.dst hv
   have hpd : ∀ (a : Act) (d : Option Tmp) (x : Value), (a.put d x).defers = a.defers := by intro a d x; cases d <;> rfl
   have e : ({ a1.put s.om.dst (.func (.func s.k) #[] c') with defers := { target := .fn (.func s.k) c', args := #[] } :: (a1.put s.om.dst (.func (.func s.k) #[] c')).defers } : Act).put none undef
    = { a1.put s.om.dst (.func (.func s.k) #[] c') with defers := [{ target := .fn (.func s.k) c', args := #[] }] } := by
    rw [hpd, hd1]; rfl
   rw [e];show (Code.seq (.region s.id3 s.ops3 false) .ret).wp P _ _ _;rw [hy] at h3;refine wp_seq (wp_region_list (LI hcall _ _ h3 hA2 (hG1.mono hE2.le) hR2 (fun a3 w3 hp => ?_)));obtain ⟨ρ3, hA3, hG3, hE3, hR3⟩ := hp;refine wp_ret ?_;obtain ⟨v3, hr3, hv3⟩ := xq hA3 hR3 hx
   have hbn : ¬ (fk.body = none) := by intro hb; rw [hb] at hbk; cases hbk
   refine leaves_cons (f := s.k) (args := c') (by simp) (by simp [invoke, callFunc, hfk, hnk, hbn]) (CallsD.mono (hcd _ _) ?_)
   rintro e' u' w' ⟨⟨v0, rfl⟩, rfl, rfl⟩
   exact ⟨v3, hr3, v3, ρ3, rfl, hv3, hE1.trans hR (hE2.trans hR1 hE3), hR3⟩
  ·cases h2
theorem Hv (hm : fP call) {n : Nat} {rs : List ResultVar} {s : DSh} {args : List Value} {v : Value} {H' : AH} (h : mZ P G call n rs s args H = some (v, H')) : H.size ≤ H'.size := by
 unfold mZ at h;obtain ⟨⟨e1, A1, H1⟩, h1, h⟩ := az.1 h
 cases e1 with
 | exit i => cases h
 | ret => cases h
 | normal =>
  simp only at h
  split at h
  ·cases h
  obtain ⟨⟨A2, H2⟩, h2, h⟩ := az.1 h;obtain ⟨⟨A3, H3⟩, h3, h⟩ := az.1 h;obtain ⟨x, hx, e⟩ := aN.1 h;cases e;have g1 := zx hm _ h1;have g2 : H1.size ≤ H2.size := pW (P := P) (G := G) (call := call) hm [s.om] (ops := s.ops2) (A := A1) (H := H1) (r := (A2, H2)) (by simp [cq, h2]);have g3 := pW hm _ h3;simp only at g1 g3;exact ep g1 (ep g2 g3)
theorem zT (hm : P.follows .mixedOrders = true) : ∀ d, j9 P G (dR P G d) ∧ fP (dR P G d) := by
 intro d
 induction d with
 | zero => exact ⟨fun f args H v H' h => (by cases h), fun f args H v H' h => (by cases h)⟩
 | succ d ih =>
  constructor
  ·intro f args H v H' h
   simp only [dR] at h
   cases hf : P.funcs[f]? with
   | none => rw [hf] at h; cases h
   | some fn =>
    rw [hf] at h;simp only at h
    split at h
    ·cases h
    ·rename_i hname
     cases hb : fn.body with
     | none => rw [hb] at h; cases h
     | some c =>
      rw [hb] at h;simp only at h;refine ⟨⟨fn, rfl, by rw [hb]; rfl, hname⟩, fun w0 B ρ w args' hR hG hargs => ?_⟩
      have hA : bJ P ρ (args ++ List.replicate (fn.ntmps - args.length) undef) { tmps := args'.toArray ++ Array.replicate (fn.ntmps - args'.toArray.size) undef, defers := [] } := by
       refine ⟨?_, rfl⟩;simp only [Array.toList_append, Array.toList_replicate, List.size_toArray];rw [hargs.1];refine hargs.append ⟨rfl, fun i x y hx hy => ?_⟩;rw [hx] at hy;cases hy;rw [List.getElem?_replicate] at hx
       split at hx
       ·cases hx; exact VRel.undef
       ·cases hx
      cases hd : jo c with
      | some s => rw [hd] at h; exact HT ih.1 ih.2 hm hf hb hd h hA hG hR
      | none =>
      rw [hd] at h;simp only [nO] at h;obtain ⟨⟨e, A', H2⟩, hc, h⟩ := az.1 h;refine calls_of_wp hf hb ?_;refine zV ih.1 ih.2 hm c hc hA hG hR (fun a' w' hp => ?_);obtain ⟨ρ', hA', hG', hE, hR'⟩ := hp
      have fin : ∀ {x : Value} {H3 : AH}, (gI P A' H2 fn.results.toList).map (·, H2) = some (x, H3) → a'.defers = [] ∧ ∃ v', (results fn a'.tmps).run P w' = .ok v' w' ∧ ∃ v'' ρ'', Ending.returned v' = .returned v'' ∧ VRel P ρ'' x v'' ∧ gG ρ H w ρ'' H3 w' ∧ Rel P w0 B ρ'' H3 w' := by
       intro x H3 hx;obtain ⟨y, hy, e⟩ := aN.1 hx;cases e;obtain ⟨v', hr, hv⟩ := xq hA' hR' hy;exact ⟨hA'.defers, v', hr, v', ρ', rfl, hv, hE, hR'⟩
      cases e with
      | normal => exact fin h
      | ret => exact fin h
      | exit i => cases h
  ·intro f args H v H' h
   simp only [dR] at h
   cases hf : P.funcs[f]? with
   | none => rw [hf] at h; cases h
   | some fn =>
    rw [hf] at h;simp only at h
    split at h
    ·cases h
    ·cases hb : fn.body with
     | none => rw [hb] at h; cases h
     | some c =>
      rw [hb] at h;simp only [nO] at h
      cases hd : jo c with
      | some s =>
       rw [hd] at h;obtain ⟨_, h⟩ := mf h;exact Hv ih.2 h
      | none =>
      rw [hd] at h;simp only at h;obtain ⟨⟨e, A', H2⟩, hc, h⟩ := az.1 h;have h1 := zx ih.2 c hc;unfold UD at h
      split at h
      ·cases h
      ·obtain ⟨y, hy, e⟩ := aN.1 h
       cases e; exact h1
end
def Uw (c1 c2 : a7) : Prop := ∀ f args H r, c1 f args H = some r → c2 f args H = some r
section
variable {P : Program} {G : List Nat} {c1 c2 : a7}
theorem ac2 (h : Uw c1 c2) {ev : Operand → Value} {o : Oper} {H : AH} {r : Value × AH} (hr : dp P c1 ev o H = some r) : dp P c2 ev o H = some r := by
 obtain ⟨dst, op, type, pos, after, guard⟩ := o
 cases op with
 | call c =>
  obtain ⟨callee, args, ats⟩ := c
  cases callee with
  | value f =>
   simp only [dp] at hr ⊢;obtain ⟨x, hx, hr⟩ := az.1 hr;rw [hx];exact h _ _ _ _ hr
  | invoke r m => exact hr
  | builtin b => exact hr
 | makeMap t r => cases r <;> exact hr
 | slice t x lo hi mx => cases lo <;> cases hi <;> cases mx <;> exact hr
 | _ => exact hr
theorem zC (h : Uw c1 c2) {ops : Array Oper} {o : Oper} {A : List Value} {H : AH} {r : List Value × AH} (hr : eR P G c1 ops o A H = some r) : eR P G c2 ops o A H = some r := by
 unfold eR at hr ⊢
 split at hr
 ·rename_i hok
  rw [if_pos hok]
  split at hr
  ·rename_i hw
   rw [if_pos hw];obtain ⟨x, hx, e⟩ := aN.1 hr;rw [ac2 h hx];exact congrArg some e
  ·rename_i hw
   rw [if_neg hw];exact hr
 ·cases hr
theorem pV (h : Uw c1 c2) {ops : Array Oper} : ∀ (l : List Oper) {A : List Value} {H : AH} {r : List Value × AH}, cq P G c1 ops l A H = some r → cq P G c2 ops l A H = some r := by
 intro l
 induction l with
 | nil => intro A H r hr; exact hr
 | cons o l ih =>
  intro A H r hr;simp only [cq] at hr ⊢;obtain ⟨s, hs, hr⟩ := az.1 hr;rw [zC h hs];exact ih hr
theorem Yx (h : Uw c1 c2) {ops : Array Oper} {A : List Value} {H : AH} {r : List Value × AH} (hr : cq P G c1 ops ops.toList A H = some r) : ip P G c2 ops A H = ip P G c1 ops A H := by
 funext i
 have h1 := pV h _ (uV hr i);unfold ip at h1 ⊢;rw [h1]; rfl
theorem UC (h : Uw c1 c2) {ops : Array Oper} {A : List Value} {H : AH} {r : List Value × AH} (hr : kZ P G c1 ops A H = some r) : kZ P G c2 ops A H = some r := by
 obtain ⟨h1, h2, h3⟩ := eO hr;unfold kZ;rw [h1];simp only
 cases h4 : cQ ops.toList with
 | nil => exact pV h _ h3
 | cons p ps =>
  simp only;rw [i3 ?_]
  ·exact pV h _ h3
  ·rw [Yx h h3, ← h4]; exact h2
theorem ma (h : Uw c1 c2) : ∀ (c : Code) {A : List Value} {H : AH} {r : AR}, aI P G c1 c A H = some r → aI P G c2 c A H = some r := by
 intro c
 induction c with
 | region id ops draw =>
  intro A H r hr;simp only [aI] at hr ⊢;obtain ⟨s, hs, e1⟩ := aN.1 hr
  have : eC P G c2 ops draw A H = some s := by
   cases draw with
   | true => exact UC h hs
   | false => exact pV h _ hs
  rw [this]; exact congrArg some e1
 | seq x y ihx ihy =>
  intro A H r hr;simp only [aI] at hr ⊢;obtain ⟨s, hx, hr⟩ := az.1 hr;rw [ihx hx];simp only [be]
  split at hr
  ·exact ihy hr
  ·exact hr
 | cond c x y ihx ihy =>
  intro A H r hr;simp only [aI] at hr ⊢
  split at hr
  ·exact ihx hr
  ·exact ihy hr
  ·cases hr
 | block id x ih =>
  intro A H r hr;simp only [aI] at hr ⊢;obtain ⟨s, hx, e2⟩ := aN.1 hr;rw [ih hx]; exact congrArg some e2
 | loop x ih =>
  intro A H r hr;simp only [aI] at hr ⊢;obtain ⟨n, hn⟩ := cp.1 hr;refine cp.2 ⟨n, ?_⟩
  clear hr
  induction n generalizing A H with
  | zero => cases hn
  | succ n ihn =>
   simp only [dD] at hn ⊢;obtain ⟨s, hx, hr⟩ := az.1 hn;rw [ih hx];simp only [be]
   split at hr
   ·exact ihn hr
   ·exact hr
 | _ => intro A H r hr; exact hr
theorem UB (h : Uw c1 c2) {n : Nat} {rs : List ResultVar} {c : Code} {args : List Value} {H : AH} {r : Value × AH} (hr : nO P G c1 n rs c args H = some r) : nO P G c2 n rs c args H = some r := by
 unfold nO at hr ⊢;obtain ⟨s, hs, hr⟩ := az.1 hr;rw [ma h _ hs];exact hr
theorem Qp (h : Uw c1 c2) {n : Nat} {rs : List ResultVar} {s : DSh} {args : List Value} {H : AH} {r : Value × AH} (hr : mZ P G c1 n rs s args H = some r) : mZ P G c2 n rs s args H = some r := by
 unfold mZ at hr ⊢;obtain ⟨⟨e1, A1, H1⟩, h1, hr⟩ := az.1 hr;rw [ma h _ h1];simp only [be]
 cases e1 with
 | exit i => exact hr
 | ret => exact hr
 | normal =>
  simp only at hr ⊢
  split at hr
  ·cases hr
  rename_i hlt
  rw [if_neg hlt];obtain ⟨q, h2, hr⟩ := az.1 hr;obtain ⟨z, h3, hr⟩ := az.1 hr;rw [zC h h2];simp only [be];rw [pV h _ h3];exact hr
theorem JP : ∀ d, Uw (dR P G d) (dR P G (d + 1)) := by
 intro d
 induction d with
 | zero => intro f args H r h; cases h
 | succ d ih =>
  intro f args H r h;rw [dR] at h ⊢;simp only [] at h ⊢
  cases hf : P.funcs[f]? with
  | none => rw [hf] at h; cases h
  | some fn =>
   rw [hf] at h;simp only at h ⊢
   split at h
   ·cases h
   ·rename_i hn
    rw [if_neg hn]
    cases hb : fn.body with
    | none => rw [hb] at h; cases h
    | some c =>
     rw [hb] at h;simp only at h ⊢
     cases hd : jo c with
     | none => rw [hd] at h; exact UB ih h
     | some s =>
      rw [hd] at h;obtain ⟨h1, h2⟩ := mf h;simp only;rw [i3 h1];exact Qp ih h2
theorem iZ {d e : Nat} (h : d ≤ e) : Uw (dR P G d) (dR P G e) := by
 induction e with
 | zero => rw [show d = 0 from by omega]; exact fun _ _ _ _ h => h
 | succ e ih =>
  by_cases hd : d = e + 1
  ·rw [hd]; exact fun _ _ _ _ h => h
  ·exact fun f args H r hr => JP e f args H r (ih (by omega) f args H r hr)
open Classical in
noncomputable def aF (P : Program) (G : List Nat) : a7 := fun f args H => if h : ∃ d r, dR P G d f args H = some r then some h.choose_spec.choose else none
theorem zy {f : Nat} {args : List Value} {H : AH} {r : Value × AH} : aF P G f args H = some r ↔ ∃ d, dR P G d f args H = some r := by
 unfold aF
 constructor
 ·intro h
  split at h
  ·rename_i hx
   cases h;exact ⟨_, hx.choose_spec.choose_spec⟩
  ·cases h
 ·rintro ⟨n, hn⟩
  have hx : ∃ d r, dR P G d f args H = some r := ⟨n, r, hn⟩;rw [dif_pos hx];have h1 := iZ (Nat.le_max_right n hx.choose) _ _ _ _ hx.choose_spec.choose_spec;have h2 := iZ (Nat.le_max_left n hx.choose) _ _ _ _ hn;rw [h2] at h1;exact h1.symm
theorem aeW (hm : P.follows .mixedOrders = true) : j9 P G (aF P G) ∧ fP (aF P G) := by
 constructor
 ·intro f args H v H' h
  obtain ⟨d, hd⟩ := zy.1 h;exact (zT hm d).1 f args H v H' hd
 ·intro f args H v H' h
  obtain ⟨d, hd⟩ := zy.1 h;exact (zT hm d).2 f args H v H' hd
theorem Zu {ev : Operand → Value} {o : Oper} {H : AH} {r : Value × AH} (h : dp P (aF P G) ev o H = some r) : ∃ d, dp P (dR P G d) ev o H = some r := by
 obtain ⟨dst, op, type, pos, after, guard⟩ := o
 cases op with
 | call c =>
  obtain ⟨callee, args, ats⟩ := c
  cases callee with
  | value f =>
   simp only [dp] at h ⊢;obtain ⟨x, hx, h⟩ := az.1 h;obtain ⟨d, hd⟩ := zy.1 h;exact ⟨d, by rw [hx]; exact hd⟩
  | invoke r m => exact ⟨0, h⟩
  | builtin b => exact ⟨0, h⟩
 | makeMap t r => cases r <;> exact ⟨0, h⟩
 | slice t x lo hi mx => cases lo <;> cases hi <;> cases mx <;> exact ⟨0, h⟩
 | _ => exact ⟨0, h⟩
theorem Hx {ops : Array Oper} : ∀ (l : List Oper) {A : List Value} {H : AH} {r : List Value × AH}, cq P G (aF P G) ops l A H = some r → ∃ d, cq P G (dR P G d) ops l A H = some r := by
 intro l
 induction l with
 | nil => intro A H r hr; exact ⟨0, hr⟩
 | cons o l ih =>
  intro A H r hr;simp only [cq] at hr ⊢;obtain ⟨s, hs, hr⟩ := az.1 hr;obtain ⟨d2, h2⟩ := ih hr
  have h1 : ∃ d, eR P G (dR P G d) ops o A H = some s := by
   unfold eR at hs ⊢
   split at hs
   ·rename_i hok
    split at hs
    ·rename_i hw
     obtain ⟨x, hx, e⟩ := aN.1 hs;obtain ⟨d, hd⟩ := Zu hx;exact ⟨d, by rw [if_pos hok, if_pos hw, hd]; exact congrArg some e⟩
    ·rename_i hw
     exact ⟨0, by rw [if_pos hok, if_neg hw]; exact hs⟩
   ·cases hs
  obtain ⟨d1, h1⟩ := h1;refine ⟨max d1 d2, ?_⟩;rw [zC (iZ (Nat.le_max_left ..)) h1];exact pV (iZ (Nat.le_max_right ..)) _ h2
theorem M1 (d : Nat) : Uw (dR P G d) (aF P G) := fun _ _ _ _ h => zy.2 ⟨d, h⟩
theorem Hy {ops : Array Oper} {draw : Bool} {A : List Value} {H : AH} {r : List Value × AH} (h : eC P G (aF P G) ops draw A H = some r) : ∃ d, eC P G (dR P G d) ops draw A H = some r := by
 cases draw with
 | false => exact Hx _ h
 | true =>
  simp only [eC] at h ⊢;obtain ⟨h1, h2, h3⟩ := eO h;obtain ⟨d, hd⟩ := Hx _ h3;refine ⟨d, ?_⟩;unfold kZ;rw [h1];simp only
  cases h4 : cQ ops.toList with
  | nil => exact hd
  | cons p ps =>
   simp only;rw [i3 ?_]
   ·exact hd
   ·rw [← Yx (M1 d) hd, ← h4]; exact h2
theorem Qo : ∀ (c : Code) {A : List Value} {H : AH} {r : AR}, aI P G (aF P G) c A H = some r → ∃ d, aI P G (dR P G d) c A H = some r := by
 intro c
 induction c with
 | region id ops draw =>
  intro A H r hr;simp only [aI] at hr ⊢;obtain ⟨s, hs, e1⟩ := aN.1 hr;obtain ⟨d, hd⟩ := Hy hs;exact ⟨d, by rw [hd]; exact congrArg some e1⟩
 | seq x y ihx ihy =>
  intro A H r hr;simp only [aI] at hr ⊢;obtain ⟨s, hx, hr⟩ := az.1 hr;obtain ⟨d1, h1⟩ := ihx hx
  split at hr
  ·rename_i e
   obtain ⟨d2, h2⟩ := ihy hr;refine ⟨max d1 d2, ?_⟩;rw [ma (iZ (Nat.le_max_left ..)) _ h1];simp only [be, e];exact ma (iZ (Nat.le_max_right ..)) _ h2
  ·refine ⟨d1, ?_⟩
   rw [h1];simp only [be];exact hr
 | cond c x y ihx ihy =>
  intro A H r hr;simp only [aI] at hr ⊢
  split at hr
  ·exact ihx hr
  ·exact ihy hr
  ·cases hr
 | block id x ih =>
  intro A H r hr;simp only [aI] at hr ⊢;obtain ⟨s, hx, e2⟩ := aN.1 hr;obtain ⟨d, hd⟩ := ih hx;exact ⟨d, by rw [hd]; exact congrArg some e2⟩
 | loop x ih =>
  intro A H r hr;simp only [aI] at hr ⊢;obtain ⟨n, hn⟩ := cp.1 hr
  have key : ∃ d, dD (aI P G (dR P G d) x) n A H = some r := by
   clear hr
   induction n generalizing A H with
   | zero => cases hn
   | succ n ihn =>
    simp only [dD] at hn ⊢;obtain ⟨s, hx, hr⟩ := az.1 hn;obtain ⟨d1, h1⟩ := ih hx
    split at hr
    ·rename_i e
     obtain ⟨d2, h2⟩ := ihn hr;refine ⟨max d1 d2, ?_⟩;rw [ma (iZ (Nat.le_max_left ..)) _ h1];simp only [be, e]
     have key2 : ∀ (n : Nat) {A : List Value} {H : AH} {r : AR}, dD (aI P G (dR P G d2) x) n A H = some r → dD (aI P G (dR P G (max d1 d2)) x) n A H = some r := by
      intro n
      induction n with
      | zero => intro A H r h; cases h
      | succ n ih2 =>
       intro A H r h;simp only [dD] at h ⊢;obtain ⟨s, hx, hr⟩ := az.1 h;rw [ma (iZ (Nat.le_max_right d1 d2)) _ hx];simp only [be]
       split at hr
       ·exact ih2 hr
       ·exact hr
     exact key2 n h2
    ·refine ⟨d1, ?_⟩
     rw [h1];simp only [be];exact hr
  obtain ⟨d, hd⟩ := key;exact ⟨d, cp.2 ⟨n, hd⟩⟩
 | _ => intro A H r hr; exact ⟨0, hr⟩
theorem aeV {f : Nat} {fn : Func} {c : Code} (hf : P.funcs[f]? = some fn) (hb : fn.body = some c) (hn : fn.name ≠ "runtime.NumGoroutine") (hds : jo c = none) {args : List Value} {H : AH} {r : Value × AH}
 (h : nO P G (aF P G) fn.ntmps fn.results.toList c args H = some r) : aF P G f args H = some r := by
 unfold nO at h;obtain ⟨s, hs, h⟩ := az.1 h;obtain ⟨d, hd⟩ := Qo _ hs;refine zy.2 ⟨d + 1, ?_⟩;simp only [dR, hf, hb, if_neg hn, hds, nO, hd, be];exact h
end
section
variable {R : Type}
abbrev tb {α β : Type} (x : Option α) (f : α → Option β) : Option β :=
 match x with
 | some a => f a
 | none => none
theorem Jr {α β : Type} (x : Option α) (f : α → Option β) : tb x f = x.bind f := by cases x <;> rfl
abbrev ff (P : Program) (b : Builtin) (argTypes : Array TypeId) (args : List Value) (H : AH) (k : Value → AH → Option R) : Option R :=
 match b, args with
 | .len, [x] => match (argTypes[0]?).bind fun t => P.underlying t with
  | some (.slice _) => match x with | .slice _ n _ => k (.int .i64 n) H | _ => none
  | some .string => match x with | .string s => k (.int .i64 s.size) H | _ => none
  | some (.map _ _) => (ly x H).bind fun v => k v H
  | _ => none
 | .max, args => (eN args).bind fun v => k v H
 | .min, args => (ii args).bind fun v => k v H
 | .append, [s, x] => (argTypes[0]?).bind fun t => (bQ P t).bind fun el => (bX P el).bind fun e => (d8 P el).bind fun by' => (bp P el).bind fun z =>
  if z.cells.size = e ∧ (argTypes[1]?).bind (fun u => bQ P u) = some el then (cO e by' s x H).bind fun r => k r.1 r.2 else none
 | .delete, [m, key] => (argTypes[0]?).bind fun t => (bS P t).bind fun kt => (b8 P kt.1).bind fun fl => (lw fl m key H).bind fun H' => k (.tuple #[]) H'
 | _, _ => none
abbrev n9 (P : Program) (call : a7) (ev : Operand → Value) (o : Oper) (H : AH) (k : Value → AH → Option R) : Option R :=
 match o.op with
 | .move x => k (ev x) H
 | .assign x => k (ev x) H
 | .pick c a b => (aH (ev c) (ev a) (ev b)).bind fun v => k v H
 | .alloc t => (bp P t).bind fun z => k (.pointer (some ⟨H.size, 0, none⟩)) (H.push (.cells false z.cells.toList))
 | .box _ x => k (.pointer (some ⟨H.size, 0, none⟩)) (H.push (.cells false (ev x).cells.toList))
 | .build t parts => match P.underlying t with
  | some (.struct fs) => (bp P t).bind fun z => (hM P fs.toList).bind fun ps => (cz (ps[·]?) z.cells.toList (parts.toList.map fun p => (p.1, ev p.2))).bind fun cs => k (.agg cs.toArray) H
  | some (.array _ el) => (bp P t).bind fun z => (bX P el).bind fun e => (cz (fun i => some (i * e, e)) z.cells.toList (parts.toList.map fun p => (p.1, ev p.2))).bind fun cs => k (.agg cs.toArray) H
  | _ => none
 | .buildSlice t len parts => (bQ P t).bind fun el => (bX P el).bind fun e => (bp P el).bind fun z =>
  if 0 < e ∧ z.cells.size = e ∧ len * e ≤ 2 ^ 24 then
   (cz (fun i => some (i * e, e)) (List.replicate len z.cells.toList).flatten (parts.toList.map fun p => (p.1, ev p.2))).bind fun cs => k (.slice (some ⟨H.size, 0, none⟩) len e) (H.push (.cells false cs))
  else none
 | .load t a => (dS P t).bind fun g => match g with
  | some n => (ax n (ev a) H).bind fun v => k v H
  | none => (ap (ev a) H).bind fun v => k v H
 | .store t a x => (bX P t).bind fun n => (cZ n (ev a) (ev x) H).bind fun H' => k undef H'
 | .nilCheck x => (se (ev x)).bind fun v => k v H
 | .binOp op t x y _ => (aj (wV P t) op (ev x) (ev y)).bind fun v => k v H
 | .unOp op _ x => (pr op (ev x)).bind fun v => k v H
 | .convert src dst x => match P.underlying src with
  | some _ => (bV (oY P dst) (ev x)).bind fun v => k v H
  | none => none
 | .makeFunc fn first captured => k (.func fn (first.map ev) (captured.map ev)) H
 | .makeMap _ none => k (.map (some H.size)) (H.push (.map [] 0))
 | .makeSlice t l c => (bQ P t).bind fun el => (bX P el).bind fun e => (d8 P el).bind fun by' => (bp P el).bind fun z => (kL z.cells.toList e by' (ev l) (ev c) H).bind fun r => k r.1 r.2
 | .slice t x lo hi none => (bQ P t).bind fun el => (bX P el).bind fun e => (dM e (ev x) (lo.map ev) (hi.map ev)).bind fun v => k v H
 | .slice t x none (some hi) (some mx) => (bQ P t).bind fun el => (bX P el).bind fun _ => (hF (ev x) (ev hi) (ev mx)).bind fun v => k v H
 | .fieldAddr s x f => (iP P s f).bind fun f => (bX P f.type).bind fun n => if n = 0 then none else (CJ f.offset (ev x)).bind fun v => k v H
 | .field s x f => (iP P s f).bind fun f => (dS P f.type).bind fun n => (jz n f.offset (ev x)).bind fun v => k v H
 | .indexAddr t x i => match P.underlying t with
  | some (.slice el) => (bX P el).bind fun e => (mN e (ev x) (ev i)).bind fun v => k v H
  | some (.array len el) => (bX P el).bind fun e => (gA len e (ev x) (ev i)).bind fun v => k v H
  | _ => none
 | .index t x i => match P.underlying t with
  | some (.array len el) => (bX P el).bind fun e => (dS P el).bind fun n => (g9 len n e (ev x) (ev i)).bind fun v => k v H
  | some .string => (g8 (ev x) (ev i)).bind fun v => k v H
  | _ => none
 | .lookup t m key ok => (bS P t).bind fun kt => (b8 P kt.1).bind fun fl => (bp P kt.2).bind fun z => (b9 fl z (ev m) (ev key) ok H).bind fun v => k v H
 | .mapUpdate t m key x => (bS P t).bind fun kt => (b8 P kt.1).bind fun fl => (dl fl (ev m) (ev key) (ev x) H).bind fun H' => k undef H'
 | .extract t i => (ah (ev t) i).bind fun v => k v H
 | .call c => match c.callee with
  | .builtin b => ff P b c.argTypes (c.args.toList.map ev) H k
  | .value f => (cI (ev f) (c.args.toList.map ev)).bind fun fa => (call fa.1 fa.2 H).bind fun r => k r.1 r.2
  | _ => none
 | _ => none
abbrev zS (P : Program) (b : Builtin) (argTypes : Array TypeId) (args : List Value) (H : AH) (k : Value → AH → Option R) : Option R :=
 match b, args with
 | .len, [x] => match (argTypes[0]?).bind fun t => P.underlying t with
  | some (.slice _) => match x with | .slice _ n _ => k (.int .i64 n) H | _ => none
  | some .string => match x with | .string s => k (.int .i64 s.size) H | _ => none
  | some (.map _ _) => (ly x H).bind fun v => k v H
  | _ => none
 | .max, args => (eN args).bind fun v => k v H
 | .min, args => (ii args).bind fun v => k v H
 | .append, [s, x] => tb (argTypes[0]?) fun t => tb (bQ P t) fun el => tb (bX P el) fun e => tb (d8 P el) fun by' => tb (bp P el) fun z =>
  if z.cells.size = e ∧ (argTypes[1]?).bind (fun u => bQ P u) = some el then (cO e by' s x H).bind fun r => k r.1 r.2 else none
 | .delete, [m, key] => tb (argTypes[0]?) fun t => tb (bS P t) fun kt => tb (b8 P kt.1) fun fl => (lw fl m key H).bind fun H' => k (.tuple #[]) H'
 | _, _ => none
abbrev cOp (P : Program) (call : a7) (ev : Operand → Value) (o : Oper) (H : AH) (k : Value → AH → Option R) : Option R :=
 match o.op with
 | .move x => k (ev x) H
 | .assign x => k (ev x) H
 | .pick c a b => (aH (ev c) (ev a) (ev b)).bind fun v => k v H
 | .alloc t => tb (bp P t) fun z => k (.pointer (some ⟨H.size, 0, none⟩)) (H.push (.cells false z.cells.toList))
 | .box _ x => k (.pointer (some ⟨H.size, 0, none⟩)) (H.push (.cells false (ev x).cells.toList))
 | .build t parts => match P.underlying t with
  | some (.struct fs) => tb (bp P t) fun z => tb (hM P fs.toList) fun ps => (cz (ps[·]?) z.cells.toList (parts.toList.map fun p => (p.1, ev p.2))).bind fun cs => k (.agg cs.toArray) H
  | some (.array _ el) => tb (bp P t) fun z => tb (bX P el) fun e => (cz (fun i => some (i * e, e)) z.cells.toList (parts.toList.map fun p => (p.1, ev p.2))).bind fun cs => k (.agg cs.toArray) H
  | _ => none
 | .buildSlice t len parts => tb (bQ P t) fun el => tb (bX P el) fun e => tb (bp P el) fun z =>
  if 0 < e ∧ z.cells.size = e ∧ len * e ≤ 2 ^ 24 then
   (cz (fun i => some (i * e, e)) (List.replicate len z.cells.toList).flatten (parts.toList.map fun p => (p.1, ev p.2))).bind fun cs => k (.slice (some ⟨H.size, 0, none⟩) len e) (H.push (.cells false cs))
  else none
 | .load t a => tb (dS P t) fun g => match g with
  | some n => (ax n (ev a) H).bind fun v => k v H
  | none => (ap (ev a) H).bind fun v => k v H
 | .store t a x => tb (bX P t) fun n => (cZ n (ev a) (ev x) H).bind fun H' => k undef H'
 | .nilCheck x => (se (ev x)).bind fun v => k v H
 | .binOp op t x y _ => (aj (wV P t) op (ev x) (ev y)).bind fun v => k v H
 | .unOp op _ x => (pr op (ev x)).bind fun v => k v H
 | .convert src dst x => match P.underlying src with
  | some _ => (bV (oY P dst) (ev x)).bind fun v => k v H
  | none => none
 | .makeFunc fn first captured => k (.func fn (first.map ev) (captured.map ev)) H
 | .makeMap _ none => k (.map (some H.size)) (H.push (.map [] 0))
 | .makeSlice t l c => tb (bQ P t) fun el => tb (bX P el) fun e => tb (d8 P el) fun by' => tb (bp P el) fun z => (kL z.cells.toList e by' (ev l) (ev c) H).bind fun r => k r.1 r.2
 | .slice t x lo hi none => tb (bQ P t) fun el => tb (bX P el) fun e => (dM e (ev x) (lo.map ev) (hi.map ev)).bind fun v => k v H
 | .slice t x none (some hi) (some mx) => tb (bQ P t) fun el => tb (bX P el) fun _ => (hF (ev x) (ev hi) (ev mx)).bind fun v => k v H
 | .fieldAddr s x f => tb (iP P s f) fun f => tb (bX P f.type) fun n => if n = 0 then none else (CJ f.offset (ev x)).bind fun v => k v H
 | .field s x f => tb (iP P s f) fun f => tb (dS P f.type) fun n => (jz n f.offset (ev x)).bind fun v => k v H
 | .indexAddr t x i => match P.underlying t with
  | some (.slice el) => tb (bX P el) fun e => (mN e (ev x) (ev i)).bind fun v => k v H
  | some (.array len el) => tb (bX P el) fun e => (gA len e (ev x) (ev i)).bind fun v => k v H
  | _ => none
 | .index t x i => match P.underlying t with
  | some (.array len el) => tb (bX P el) fun e => tb (dS P el) fun n => (g9 len n e (ev x) (ev i)).bind fun v => k v H
  | some .string => (g8 (ev x) (ev i)).bind fun v => k v H
  | _ => none
 | .lookup t m key ok => tb (bS P t) fun kt => tb (b8 P kt.1) fun fl => tb (bp P kt.2) fun z => (b9 fl z (ev m) (ev key) ok H).bind fun v => k v H
 | .mapUpdate t m key x => tb (bS P t) fun kt => tb (b8 P kt.1) fun fl => (dl fl (ev m) (ev key) (ev x) H).bind fun H' => k undef H'
 | .extract t i => (ah (ev t) i).bind fun v => k v H
 | .call c => match c.callee with
  | .builtin b => zS P b c.argTypes (c.args.toList.map ev) H k
  | .value f => (cI (ev f) (c.args.toList.map ev)).bind fun fa => (call fa.1 fa.2 H).bind fun r => k r.1 r.2
  | _ => none
 | _ => none
theorem eY {α β γ : Type} (x : Option α) (b : β) (k : α → β → Option γ) : ((x.map (·, b)).bind fun r => k r.1 r.2) = x.bind fun v => k v b := by cases x <;> rfl
theorem vI {β γ : Type} (x : Option β) (v : Value) (k : Value → β → Option γ) : ((x.map fun H' => (v, H')).bind fun r => k r.1 r.2) = x.bind fun H' => k v H' := by cases x <;> rfl
theorem EB (P : Program) (b : Builtin) (ts : Array TypeId) (args : List Value) (H : AH) (k : Value → AH → Option R) : ff P b ts args H k = (b7 P b ts args H).bind fun r => k r.1 r.2 := by
 cases b with
 | len =>
  match args with
  | [] => rfl
  | [x] =>
   simp only [ff, b7]
   cases (ts[0]?).bind fun t => P.underlying t with
   | none => rfl
   | some d => cases d <;> first | rfl | (cases x <;> rfl) | (simp only [eY])
  | x :: y :: zs => rfl
 | max => simp only [ff, b7, eY]
 | min => simp only [ff, b7, eY]
 | append =>
  match args with
  | [] => rfl
  | [x] => rfl
  | [s, x] =>
   simp only [ff, b7, Option.bind_assoc]
   congr 1; funext t; congr 1; funext el; congr 1; funext e; congr 1; funext b; congr 1; funext z
   split
   ·rfl
   ·rfl
  | x :: y :: z :: zs => rfl
 | delete =>
  match args with
  | [] => rfl
  | [x] => rfl
  | [s, x] => simp only [ff, b7, Option.bind_assoc, vI]
  | x :: y :: z :: zs => rfl
 | _ => rfl
theorem ZA (P : Program) (call : a7) (ev : Operand → Value) (o : Oper) (H : AH) (k : Value → AH → Option R) : n9 P call ev o H k = (dp P call ev o H).bind fun r => k r.1 r.2 := by
 obtain ⟨dst, op, type, pos, after, guard⟩ := o
 cases op with
 | call c =>
  obtain ⟨callee, args, ats⟩ := c
  cases callee with
  | value f => simp only [n9, dp, Option.bind_assoc]
  | invoke r m => rfl
  | builtin b => simp only [n9, dp]; exact EB ..
 | makeMap t r => cases r <;> rfl
 | slice t x lo hi mx =>
  cases mx with
  | none => simp only [n9, dp, Option.bind_assoc, eY]
  | some m => cases lo <;> cases hi <;> first | rfl | (simp only [n9, dp, Option.bind_assoc, eY])
 | load t a =>
  simp only [n9, dp, Option.bind_assoc]
  congr 1
  funext g
  cases g <;> simp only [eY]
 | build t parts =>
  simp only [n9, dp]
  cases P.underlying t with
  | none => rfl
  | some d => cases d <;> first | rfl | (simp only [Option.bind_assoc, Option.bind_map]; rfl)
 | buildSlice t len parts =>
  simp only [n9, dp, Option.bind_assoc]
  congr 1; funext el; congr 1; funext e; congr 1; funext z
  split
  ·rw [Option.bind_map]; rfl
  ·rfl
 | fieldAddr s x f =>
  simp only [n9, dp, Option.bind_assoc]
  congr 1; funext el; congr 1; funext e
  split
  ·rfl
  ·rw [eY]
 | alloc t => simp only [n9, dp, Option.bind_map]; rfl
 | indexAddr t x i =>
  simp only [n9, dp]
  cases P.underlying t with
  | none => rfl
  | some d => cases d <;> first | rfl | (simp only [Option.bind_assoc, eY])
 | index t x i =>
  simp only [n9, dp]
  cases P.underlying t with
  | none => rfl
  | some d => cases d <;> first | rfl | (simp only [Option.bind_assoc, eY])
 | convert s d x =>
  simp only [n9, dp]
  cases P.underlying s with
  | none => rfl
  | some d => simp only [eY]
 | store t x y => simp only [n9, dp, Option.bind_assoc, vI]
 | mapUpdate t m key x => simp only [n9, dp, Option.bind_assoc, vI]
 | _ => first | rfl | (simp only [n9, dp, Option.bind_assoc, eY]; done)
theorem JZ (P : Program) (b : Builtin) (ts : Array TypeId) (args : List Value) (H : AH) (k : Value → AH → Option R) : zS P b ts args H k = ff P b ts args H k := by
 unfold zS ff;simp only [Jr]
theorem ae1 (P : Program) (call : a7) (ev : Operand → Value) (o : Oper) (H : AH) (k : Value → AH → Option R) : cOp P call ev o H k = n9 P call ev o H k := by
 unfold cOp n9;simp only [Jr, JZ]
theorem US (P : Program) (call : a7) (ev : Operand → Value) (o : Oper) (H : AH) (k : Value → AH → Option R) : cOp P call ev o H k = (dp P call ev o H).bind fun r => k r.1 r.2 := (ae1 ..).trans (ZA ..)
def Gg (op : Op) : Bool := jm op == 0 || jm op == 2
theorem SU {P : Program} {call : a7} {ev : Operand → Value} {o : Oper} {H : AH} (h : Gg o.op = true) : dp P call ev o H = (cOp P call ev o H fun v _ => some v).map (·, H) := by
 rw [US]
 cases hx : dp P call ev o H with
 | none => rfl
 | some r =>
  obtain ⟨v, H'⟩ := r;simp only [be, dx];unfold Gg at h;simp only [Bool.or_eq_true, beq_iff_eq] at h
  rcases h with h | h
  ·rw [(sP h hx).1]
  ·rw [zA h] at hx
   obtain ⟨y, _, e⟩ := aN.1 hx;rw [(Prod.mk.inj e).2]
abbrev Nh (P : Program) (G : List Nat) (call : a7) (ops : Array Oper) (o : Oper) (A : List Value) (H : AH) (k : List Value → AH → Option R) : Option R :=
 match o.op.operands.toList.all (JK G) with
 | true => match o.guard with
  | none => cOp P call (dU A) o H fun v H' => k (jB A o.dst v) H'
  | some g => match Gg o.op with
   | true => (match cL ops A g.1 == some g.2 with
    | true => cOp P call (dU A) o H fun v _ => some v
    | false => some undef).bind fun v => k (jB A o.dst v) H
   | false => (match cL ops A g.1 == some g.2 with
    | true => dp P call (dU A) o H
    | false => some (undef, H)).bind fun r => k (jB A o.dst r.1) r.2
 | false => none
theorem HN (P : Program) (G : List Nat) (call : a7) (ops : Array Oper) (o : Oper) (A : List Value) (H : AH) (k : List Value → AH → Option R) : Nh P G call ops o A H k = (eR P G call ops o A H).bind fun s => k s.1 s.2 := by
 unfold Nh eR
 cases o.op.operands.toList.all (JK G) with
 | false => rfl
 | true =>
  simp only [if_true];unfold Region.wanted
  cases o.guard with
  | none =>
   simp only [if_true];rw [US, Option.bind_map]; rfl
  | some g =>
   obtain ⟨g, want⟩ := g;simp only
   cases hl : Gg o.op with
   | true =>
    simp only
    by_cases h : (cL ops A g == some want) = true
    ·rw [if_pos h, h, SU hl]
     simp only
     cases (cOp P call (dU A) o H fun v _ => some v) <;> rfl
    ·rw [if_neg h, Bool.eq_false_iff.2 h]; rfl
   | false =>
    simp only
    by_cases h : (cL ops A g == some want) = true
    ·rw [if_pos h, h, Option.bind_map]; rfl
    ·rw [if_neg h, Bool.eq_false_iff.2 h]; rfl
abbrev UT (P : Program) (G : List Nat) (call : a7) (ops : Array Oper) : List Oper → List Value → AH → (List Value → AH → Option R) → Option R
 | [], A, H, k => k A H
 | o :: rest, A, H, k => Nh P G call ops o A H fun A' H' => UT P G call ops rest A' H' k
theorem Ng (P : Program) (G : List Nat) (call : a7) (ops : Array Oper) : ∀ (l : List Oper) (A : List Value) (H : AH) (k : List Value → AH → Option R), UT P G call ops l A H k = (cq P G call ops l A H).bind fun s => k s.1 s.2 := by
 intro l
 induction l with
 | nil => intro A H k; rfl
 | cons o l ih =>
  intro A H k;simp only [UT, cq];rw [HN, Option.bind_assoc]
  congr 1
  funext s
  exact ih _ _ _
noncomputable def bE {R : Type} (x y : Option Value) (k : Option R) : Option R := HO (x = y) k
theorem adG {R : Type} {x y : Option Value} (h : x = y) (k : Option R) : bE x y k = k := i3 h k
noncomputable abbrev QD {R : Type} (j : Nat) (hist : List ((AH → Option Value) × AH)) (rd : AH → Option Value) (H H' : AH) (k : Option R) : List (Nat × Nat) → Option R
 | [] => k
 | pq :: rest => match pq.1 == j with
  | true => match Nat.blt pq.2 j with
   | true => match hist[pq.2]? with
    | some h => bE (rd h.2) (rd H) (QD j hist rd H H' k rest)
    | none => none
   | false => QD j hist rd H H' k rest
  | false => match pq.2 == j with
   | true => match Nat.blt pq.1 j with
    | true => match hist[pq.1]? with
     | some h => bE (h.1 H') (h.1 h.2) (QD j hist rd H H' k rest)
     | none => none
    | false => QD j hist rd H H' k rest
   | false => QD j hist rd H H' k rest
theorem HP {α β : Type} (p : Prop) (x : Option α) (k : α → Option β) : (HO p x).bind k = HO p (x.bind k) := by unfold HO; split <;> rfl
theorem UZ {α β : Type} {j : Nat} {hist : List ((AH → Option Value) × AH)} {rd : AH → Option Value} {H H' : AH} (x : Option α) (k : α → Option β) : ∀ l, (QD j hist rd H H' x l).bind k = QD j hist rd H H' (x.bind k) l := by
 intro l
 induction l with
 | nil => rfl
 | cons p l ih =>
  simp only [QD]
  cases p.1 == j with
  | true =>
   cases Nat.blt p.2 j with
   | true =>
    simp only
    cases hist[p.2]? with
    | none => rfl
    | some h => simp only [bE]; rw [HP, ih]
   | false => exact ih
  | false =>
   cases p.2 == j with
   | true =>
    cases Nat.blt p.1 j with
    | true =>
     simp only
     cases hist[p.1]? with
     | none => rfl
     | some h => simp only [bE]; rw [HP, ih]
    | false => exact ih
   | false => exact ih
def Um (j : Nat) (hist : List ((AH → Option Value) × AH)) (rd : AH → Option Value) (H H' : AH) (p : Nat × Nat) : Prop :=
 (p.1 = j → p.2 < j → ∃ h, hist[p.2]? = some h ∧ rd h.2 = rd H) ∧ (p.2 = j → p.1 < j → ∃ h, hist[p.1]? = some h ∧ h.1 H' = h.1 h.2)
theorem Nj {α : Type} {p : Prop} {x : Option α} {r : α} : HO p x = some r ↔ p ∧ x = some r := ⟨mf, fun h => by rw [i3 h.1]; exact h.2⟩
theorem Nl {α : Type} {j : Nat} {hist : List ((AH → Option Value) × AH)} {rd : AH → Option Value} {H H' : AH} {x : Option α} {r : α} : ∀ {l}, QD j hist rd H H' x l = some r ↔ (∀ p ∈ l, Um j hist rd H H' p) ∧ x = some r := by
 intro l
 induction l with
 | nil => simp [QD]
 | cons p l ih =>
  have split : (∀ q ∈ p :: l, Um j hist rd H H' q) ↔ Um j hist rd H H' p ∧ ∀ q ∈ l, Um j hist rd H H' q := by simp
  rw [split, and_assoc, ← ih];simp only [QD]
  by_cases h1 : p.1 = j
  ·have e1 : (p.1 == j) = true := by simpa using h1
   rw [e1];simp only
   by_cases h2 : p.2 < j
   ·have e2 : Nat.blt p.2 j = true := by simpa [Nat.blt_eq] using h2
    rw [e2];simp only
    have hn : ¬ p.2 = j := by omega
    unfold Um
    cases hist[p.2]? with
    | none => simp [h1, h2]
    | some h => simp only [bE]; rw [Nj]; simp [h1, h2, hn]
   ·have e2 : Nat.blt p.2 j = false := by rw [Bool.eq_false_iff]; intro h; exact h2 (by simpa [Nat.blt_eq] using h)
    rw [e2];simp only;have : Um j hist rd H H' p := ⟨fun _ h => absurd h h2, fun _ h => absurd h (by omega)⟩;simp [this]
  ·have e1 : (p.1 == j) = false := by simpa using h1
   rw [e1];simp only
   by_cases h2 : p.2 = j
   ·have e2 : (p.2 == j) = true := by simpa using h2
    rw [e2];simp only
    by_cases h3 : p.1 < j
    ·have e3 : Nat.blt p.1 j = true := by simpa [Nat.blt_eq] using h3
     rw [e3];simp only;unfold Um
     cases hist[p.1]? with
     | none => simp [h1, h2, h3]
     | some h => simp only [bE]; rw [Nj]; simp [h1, h2, h3]
    ·have e3 : Nat.blt p.1 j = false := by rw [Bool.eq_false_iff]; intro h; exact h3 (by simpa [Nat.blt_eq] using h)
     rw [e3];simp only;have : Um j hist rd H H' p := ⟨fun h => absurd h h1, fun _ h => absurd h h3⟩;simp [this]
   ·have e2 : (p.2 == j) = false := by simpa using h2
    rw [e2];simp only;have : Um j hist rd H H' p := ⟨fun h => absurd h h1, fun h => absurd h h2⟩;simp [this]
abbrev G3 (P : Program) (A : List Value) (o : Oper) : AH → Option Value := fun H => zB P (dU A) o.op H
noncomputable def oy (P : Program) (G : List Nat) (call : a7) (ops : Array Oper) (pairs : List (Nat × Nat)) : List Oper → Nat → List ((AH → Option Value) × AH) → List Value → AH → Option (List Value × AH)
 | [], _, _, A, H => some (A, H)
 | o :: rest, j, hist, A, H => (eR P G call ops o A H).bind fun s => QD j hist (G3 P A o) H s.2 (oy P G call ops pairs rest (j + 1) (hist ++ [(G3 P A o, H)]) s.1 s.2) pairs
noncomputable abbrev Nf (P : Program) (G : List Nat) (call : a7) (ops : Array Oper) (pairs : List (Nat × Nat)) : List Oper → Nat → List ((AH → Option Value) × AH) → List Value → AH → (List Value → AH → Option R) → Option R
 | [], _, _, A, H, k => k A H
 | o :: rest, j, hist, A, H, k => Nh P G call ops o A H fun A' H' => QD j hist (G3 P A o) H H' (Nf P G call ops pairs rest (j + 1) (hist ++ [(G3 P A o, H)]) A' H' k) pairs
theorem UU (P : Program) (G : List Nat) (call : a7) (ops : Array Oper) (pairs : List (Nat × Nat)) : ∀ (l : List Oper) (j : Nat) (hist : List ((AH → Option Value) × AH)) (A : List Value) (H : AH) (k : List Value → AH → Option R), Nf P G call ops pairs l j hist A H k = (oy P G call ops pairs l j hist A H).bind fun s => k s.1 s.2 := by
 intro l
 induction l with
 | nil => intro j hist A H k; rfl
 | cons o l ih =>
  intro j hist A H k;simp only [Nf, oy];rw [HN, Option.bind_assoc]
  congr 1
  funext s
  rw [UZ, ih]
theorem Qs {P : Program} {G : List Nat} {call : a7} {ops : Array Oper} {pairs : List (Nat × Nat)} {A0 : List Value} {H0 : AH} {r0 : List Value × AH} (h0 : cq P G call ops ops.toList A0 H0 = some r0) (hp : ∀ p ∈ pairs, p.1 < ops.size ∧ p.2 < ops.size ∧ p.1 ≠ p.2) :
 ∀ (l : List Oper) (j : Nat) (hist : List ((AH → Option Value) × AH)), ops.toList.drop j = l → hist.length = j → (∀ i, i < j → ∃ o, ops[i]? = some o ∧ hist[i]? = some (G3 P (ip P G call ops A0 H0 i).1 o, (ip P G call ops A0 H0 i).2)) →
  ∀ r, oy P G call ops pairs l j hist (ip P G call ops A0 H0 j).1 (ip P G call ops A0 H0 j).2 = some r ↔ (∀ p ∈ pairs, j ≤ max p.1 p.2 → ix P (ip P G call ops A0 H0) ops p) ∧ r = r0 := by
 intro l
 induction l with
 | nil =>
  intro j hist hl hlen hh r
  have hj : ops.size ≤ j := by
   have := congrArg List.length hl;simp at this; omega
  have hst : ip P G call ops A0 H0 j = r0 := by
   unfold ip;rw [List.take_of_length_le (by simpa using hj), h0]; rfl
  simp only [oy, hst]
  constructor
  ·intro e
   exact ⟨fun p hpm hm => absurd (hp p hpm) (by omega), (eu e).symm⟩
  ·rintro ⟨_, rfl⟩; rfl
 | cons o l ih =>
  intro j hist hl hlen hh r
  have hj : ops.toList[j]? = some o := by
   have := congrArg (·[0]?) hl
   simpa using this
  have ho : ops[j]? = some o := by simpa using hj
  have hjs : j < ops.size := by
   have := (Gi.1 hj).1
   simpa using this
  have hstep := Jh h0 ho
  have hl' : ops.toList.drop (j + 1) = l := by
   have := congrArg (List.drop 1) hl
   simpa [List.drop_drop, Nat.add_comm] using this
  have hh' : ∀ i, i < j + 1 → ∃ o', ops[i]? = some o' ∧ (hist ++ [(G3 P (ip P G call ops A0 H0 j).1 o, (ip P G call ops A0 H0 j).2)])[i]? = some (G3 P (ip P G call ops A0 H0 i).1 o', (ip P G call ops A0 H0 i).2) := by
   intro i hi
   by_cases e : i = j
   ·subst e
    exact ⟨o, ho, by rw [List.getElem?_append_right (by omega)]; simp [hlen]⟩
   ·obtain ⟨o', h1, h2⟩ := hh i (by omega)
    exact ⟨o', h1, by rw [List.getElem?_append_left (by omega)]; exact h2⟩
  have hi := ih (j + 1) _ hl' (by simp [hlen]) hh' r;simp only [oy];rw [hstep];simp only [be];rw [Nl, hi]
  have key : ∀ p ∈ pairs, max p.1 p.2 = j → (Um j hist (G3 P (ip P G call ops A0 H0 j).1 o) (ip P G call ops A0 H0 j).2 (ip P G call ops A0 H0 (j + 1)).2 p ↔ ix P (ip P G call ops A0 H0) ops p) := by
   intro p hpm hm;obtain ⟨h1, h2, h3⟩ := hp p hpm;unfold Um ix
   by_cases hlt : p.2 < p.1
   ·have e1 : p.1 = j := by omega
    obtain ⟨o2, _, hg⟩ := hh p.2 (by omega);rw [if_pos hlt]
    constructor
    ·intro ⟨a, _⟩ o' ho'
     rw [e1, ho] at ho';cases ho';obtain ⟨h, hg', e⟩ := a e1 (by omega);rw [hg] at hg';cases hg';rw [e1];exact e
    ·intro a
     refine ⟨fun _ _ => ⟨_, hg, ?_⟩, fun e => absurd e (by omega)⟩;have := a o (by rw [e1]; exact ho);rw [e1] at this;exact this
   ·have e2 : p.2 = j := by omega
    obtain ⟨o1, ho1, hg⟩ := hh p.1 (by omega);rw [if_neg hlt, e2]
    constructor
    ·intro ⟨_, a⟩ o' ho'
     rw [ho1] at ho';cases ho';obtain ⟨h, hg', e⟩ := a rfl (by omega);rw [hg] at hg';cases hg';exact e
    ·intro a
     refine ⟨fun e => absurd e (by omega), fun _ _ => ⟨_, hg, a o1 ho1⟩⟩
  have out : ∀ p ∈ pairs, max p.1 p.2 ≠ j → Um j hist (G3 P (ip P G call ops A0 H0 j).1 o) (ip P G call ops A0 H0 j).2 (ip P G call ops A0 H0 (j + 1)).2 p := by
   intro p hpm hm;exact ⟨fun h1 h2 => absurd hm (by omega), fun h1 h2 => absurd hm (by omega)⟩
  constructor
  ·rintro ⟨a, b, c⟩
   refine ⟨fun p hpm hm => ?_, c⟩
   by_cases e : max p.1 p.2 = j
   ·exact (key p hpm e).1 (a p hpm)
   ·exact b p hpm (by omega)
  ·rintro ⟨a, c⟩
   refine ⟨fun p hpm => ?_, fun p hpm hm => a p hpm (by omega), c⟩
   by_cases e : max p.1 p.2 = j
   ·exact (key p hpm e).2 (a p hpm (by omega))
   ·exact out p hpm e
theorem JR {P : Program} {G : List Nat} {call : a7} {ops : Array Oper} {pairs : List (Nat × Nat)} : ∀ (l : List Oper) (j : Nat) (hist : List ((AH → Option Value) × AH)) (A : List Value) (H : AH) (r : List Value × AH), oy P G call ops pairs l j hist A H = some r → cq P G call ops l A H = some r := by
 intro l
 induction l with
 | nil => intro j hist A H r h; exact h
 | cons o l ih =>
  intro j hist A H r h;simp only [oy] at h;obtain ⟨s, hs, h⟩ := az.1 h;simp only [cq];rw [hs];exact ih _ _ _ _ _ (Nl.1 h).2
theorem Gp {ops : Array Oper} : ∀ p ∈ cQ ops.toList, p.1 < ops.size ∧ p.2 < ops.size ∧ p.1 ≠ p.2 := by
 intro p hp;unfold cQ at hp;simp only [List.mem_flatMap, List.mem_filter, List.mem_map] at hp;obtain ⟨x, ⟨hx, hx2⟩, y, ⟨hy, hy2⟩, rfl⟩ := hp;have hx := List.mem_zipIdx hx;have hy := List.mem_zipIdx hy;simp only [beq_iff_eq] at hx2;simp only [Bool.and_eq_true, beq_iff_eq] at hy2;refine ⟨by have := hx.2.1; simpa using this, by have := hy.2.1; simpa using this, ?_⟩;intro e;simp only at e;have e3 := hy2.1.1;have ex := hx.2.2;have ey := hy.2.2;simp only [e, Nat.sub_zero] at ex ey
 have : x.1 = y.1 := by rw [ex, ey]
 rw [this, e3] at hx2;cases hx2
theorem J1 {P : Program} {G : List Nat} {call : a7} {ops : Array Oper} {pairs : List (Nat × Nat)} (hp : ∀ p ∈ pairs, p.1 < ops.size ∧ p.2 < ops.size ∧ p.1 ≠ p.2) (A : List Value) (H : AH) :
 HO (∀ q ∈ pairs, ix P (ip P G call ops A H) ops q) (cq P G call ops ops.toList A H) = oy P G call ops pairs ops.toList 0 [] A H := by
 cases hx : cq P G call ops ops.toList A H with
 | none =>
  cases hy : oy P G call ops pairs ops.toList 0 [] A H with
  | none => unfold HO; split <;> rfl
  | some r => have := JR _ _ _ _ _ _ hy; rw [hx] at this; cases this
 | some r0 =>
  have hi := Qs hx hp ops.toList 0 [] rfl rfl (fun i hi => absurd hi (by omega));simp only [Yy] at hi
  cases hy : oy P G call ops pairs ops.toList 0 [] A H with
  | none =>
   cases hz : HO (∀ q ∈ pairs, ix P (ip P G call ops A H) ops q) (some r0) with
   | none => rfl
   | some r =>
    obtain ⟨h1, h2⟩ := mf hz;have := (hi r0).2 ⟨fun p hpm _ => h1 p hpm, rfl⟩;rw [hy] at this; cases this
  | some r =>
   obtain ⟨h1, h2⟩ := (hi r).1 hy;rw [i3 (fun p hpm => h1 p hpm (by omega)), h2]
noncomputable abbrev EC (P : Program) (G : List Nat) (call : a7) (ops : Array Oper) (draw : Bool) (A : List Value) (H : AH) (k : List Value → AH → Option R) : Option R :=
 match draw with
 | false => UT P G call ops ops.toList A H k
 | true => match rF ops.toList with
  | false => none
  | true => match cQ ops.toList with
   | [] => UT P G call ops ops.toList A H k
   | p :: ps => Nf P G call ops (p :: ps) ops.toList 0 [] A H k
theorem J0 (P : Program) (G : List Nat) (call : a7) (ops : Array Oper) (draw : Bool) (A : List Value) (H : AH) (k : List Value → AH → Option R) : EC P G call ops draw A H k = (eC P G call ops draw A H).bind fun s => k s.1 s.2 := by
 unfold EC eC kZ
 cases draw with
 | false => exact Ng ..
 | true =>
  simp only
  cases rF ops.toList with
  | false => rfl
  | true =>
   simp only
   cases hl : cQ ops.toList with
   | nil => exact Ng ..
   | cons p ps =>
    simp only;rw [J1 (fun q hq => Gp q (by rw [hl]; exact hq)), UU]
def ZF (kn : List Value → AH → Option R) (kx : Nat → List Value → AH → Option R) (kr : List Value → AH → Option R) (r : AR) : Option R :=
 match r.1 with
 | .normal => kn r.2.1 r.2.2
 | .exit i => kx i r.2.1 r.2.2
 | .ret => kr r.2.1 r.2.2
noncomputable def gJ (P : Program) (G : List Nat) (call : a7) (x : Code) (A : List Value) (H : AH) (kx : Nat → List Value → AH → Option R) (kr : List Value → AH → Option R) : Option R :=
 (nP (aI P G call x) A H).bind (ZF (fun _ _ => none) kx kr)
noncomputable abbrev aQ (P : Program) (G : List Nat) (call : a7) : Code → List Value → AH → (List Value → AH → Option R) → (Nat → List Value → AH → Option R) → (List Value → AH → Option R) → Option R
 | .skip, A, H, kn, _, _ => kn A H
 | .label _, A, H, kn, _, _ => kn A H
 | .region _ ops draw, A, H, kn, _, _ => EC P G call ops draw A H kn
 | .seq x y, A, H, kn, kx, kr => aQ P G call x A H (fun A H => aQ P G call y A H kn kx kr) kx kr
 | .cond c x y, A, H, kn, kx, kr => match dU A c with
  | .bool true => aQ P G call x A H kn kx kr
  | .bool false => aQ P G call y A H kn kx kr
  | _ => none
 | .block id x, A, H, kn, kx, kr => aQ P G call x A H kn (fun i A H => if i = id then kn A H else kx i A H) kr
 | .loop x, A, H, _, kx, kr => gJ P G call x A H kx kr
 | .exit id, A, H, _, kx, _ => kx id A H
 | .ret, A, H, _, _, kr => kr A H
 | _, _, _, _, _, _ => none
theorem Qq {f : List Value → AH → Option AR} : ∀ {n : Nat} {A : List Value} {H : AH} {r : AR}, dD f n A H = some r → r.1 ≠ .normal := by
 intro n
 induction n with
 | zero => intro A H r h; cases h
 | succ n ih =>
  intro A H r h;simp only [dD] at h;obtain ⟨s, hs, h⟩ := az.1 h
  split at h
  ·exact ih h
  ·rename_i e
   cases h;exact fun he => e he
theorem Qr {f : List Value → AH → Option AR} {A : List Value} {H : AH} {r : AR} (h : nP f A H = some r) : r.1 ≠ .normal := by
 obtain ⟨n, hn⟩ := cp.1 h;exact Qq hn
theorem sV (P : Program) (G : List Nat) (call : a7) : ∀ (c : Code) (A : List Value) (H : AH) (kn : List Value → AH → Option R) (kx : Nat → List Value → AH → Option R) (kr : List Value → AH → Option R),
 aQ P G call c A H kn kx kr = (aI P G call c A H).bind (ZF kn kx kr) := by
 intro c
 induction c with
 | skip => intros; rfl
 | label => intros; rfl
 | exit => intros; rfl
 | ret => intros; rfl
 | region id ops draw =>
  intro A H kn kx kr;simp only [aQ, aI];rw [J0, Option.bind_map]; rfl
 | seq x y ihx ihy =>
  intro A H kn kx kr;simp only [aQ, aI];rw [ihx, Option.bind_assoc]
  congr 1
  funext r
  obtain ⟨e, A1, H1⟩ := r
  cases e with
  | normal => simp only [ZF]; exact ihy ..
  | exit i => rfl
  | ret => rfl
 | cond c x y ihx ihy =>
  intro A H kn kx kr;simp only [aQ, aI]
  generalize dU A c = v
  cases v with
  | bool b => cases b <;> first | exact ihx .. | exact ihy ..
  | _ => rfl
 | block id x ih =>
  intro A H kn kx kr;simp only [aQ, aI];rw [ih, Option.bind_map]
  congr 1
  funext r
  obtain ⟨e, A1, H1⟩ := r
  cases e with
  | normal => rfl
  | exit i =>
   simp only [ZF, Function.comp]
   split <;> rfl
  | ret => rfl
 | loop x ih =>
  intro A H kn kx kr;simp only [aQ, aI, gJ]
  cases h : nP (aI P G call x) A H with
  | none => rfl
  | some r =>
   simp only [be];have := Qr h;obtain ⟨e, A1, H1⟩ := r
   cases e with
   | normal => exact absurd rfl this
   | exit i => rfl
   | ret => rfl
 | rangeFunc => intros; rfl
 | scope => intros; rfl
 | goto => intros; rfl
 | refuse => intros; rfl
theorem UQ (P : Program) (G : List Nat) (call : a7) (x : Code) (A : List Value) (H : AH) (kx : Nat → List Value → AH → Option R) (kr : List Value → AH → Option R) :
 gJ P G call x A H kx kr = aQ P G call x A H (fun A H => gJ P G call x A H kx kr) kx kr := by
 rw [sV];unfold gJ;rw [UE, Option.bind_assoc]
 congr 1
 funext r
 obtain ⟨e, A1, H1⟩ := r
 cases e <;> rfl
abbrev qV (P : Program) (A : List Value) (H : AH) : List ResultVar → (List Value → Option R) → Option R
 | [], k => k []
 | .tmp t :: rs, k => qV P A H rs fun vs => k (A[t]?.getD undef :: vs)
 | .cell a t :: rs, k => tb (dS P t) fun g => match g with
  | some n => (ax n (A[a]?.getD undef) H).bind fun v => qV P A H rs fun vs => k (v :: vs)
  | none => (ap (A[a]?.getD undef) H).bind fun v => qV P A H rs fun vs => k (v :: vs)
theorem UR (P : Program) (A : List Value) (H : AH) : ∀ (rs : List ResultVar) (k : List Value → Option R), qV P A H rs k = (qT P A H rs).bind k := by
 intro rs
 induction rs with
 | nil => intro k; rfl
 | cons r rs ih =>
  intro k;simp only [qT, Option.bind_assoc, be]
  cases r with
  | tmp t =>
   simp only [qV, jC, be];rw [ih]
  | cell a t =>
   simp only [qV, jC, Option.bind_assoc, Jr]
   congr 1
   funext g
   cases g <;> (simp only; congr 1; funext v; rw [ih])
end
def tup : List Value → Value
 | [v] => v
 | vs => .tuple vs.toArray
abbrev dV (P : Program) (rs : List ResultVar) (A : List Value) (H : AH) : Option (Value × AH) := qV P A H rs fun vs => some (tup vs, H)
noncomputable def Nd (P : Program) (G : List Nat) (call : a7) (n : Nat) (rs : List ResultVar) (c : Code) (args : List Value) (H : AH) : Option (Value × AH) :=
 aQ P G call c (args ++ List.replicate (n - args.length) undef) H (dV P rs) (fun _ _ _ => none) (dV P rs)
theorem Ne (P : Program) (rs : List ResultVar) (A : List Value) (H : AH) : dV P rs A H = (gI P A H rs).map (·, H) := by
 unfold dV gI;rw [UR, Option.map_map]
 cases qT P A H rs with
 | none => rfl
 | some vs =>
  simp only [be, dx, Function.comp]
  congr 2
theorem UP (P : Program) (G : List Nat) (call : a7) (n : Nat) (rs : List ResultVar) (c : Code) (args : List Value) (H : AH) : Nd P G call n rs c args H = nO P G call n rs c args H := by
 unfold Nd nO;rw [sV]
 congr 1
 funext r
 obtain ⟨e, A1, H1⟩ := r
 cases e with
 | normal => exact Ne ..
 | exit i => rfl
 | ret => exact Ne ..
def bw (fn : Func) : Code := fn.body.getD .skip
theorem JQ {P : Program} {G : List Nat} {f : Nat} {fn : Func} (hf : P.funcs[f]? = some fn) (hb : fn.body.isSome = true) (hn : (fn.name == "runtime.NumGoroutine") = false) (hd : jo (bw fn) = none) {args : List Value} {H : AH} {r : Value × AH}
 (h : Nd P G (aF P G) fn.ntmps fn.results.toList (bw fn) args H = some r) : aF P G f args H = some r := by
 cases hc : fn.body with
 | none => rw [hc] at hb; cases hb
 | some c =>
  rw [UP] at h;unfold bw at h hd;rw [hc] at h hd;exact aeV hf hc (by simpa using hn) hd h
def Code.sub : Code → List Nat → Code
 | c, [] => c
 | .seq x _, 0 :: p => Code.sub x p
 | .seq _ y, 1 :: p => Code.sub y p
 | .cond _ x _, 2 :: p => Code.sub x p
 | .cond _ _ y, 3 :: p => Code.sub y p
 | .block _ x, 4 :: p => Code.sub x p
 | .loop x, 5 :: p => Code.sub x p
 | _, _ => .skip
def yv : Value → Option Bool
 | .bool b => some b
 | _ => none
def aS {R : Type} (cs : List Value) (H : AH) (k : Value → AH → Option R) : Option R := k (.pointer (some ⟨H.size, 0, none⟩)) (H.push (.cells false cs))
def afN {R : Type} (len e : Nat) (cs : List Value) (H : AH) (k : Value → AH → Option R) : Option R := k (.slice (some ⟨H.size, 0, none⟩) len e) (H.push (.cells false cs))
def CG {R : Type} (H : AH) (k : Value → AH → Option R) : Option R := k (.map (some H.size)) (H.push (.map [] 0))
def dt {R : Type} (x : Value) (k : Value → Option R) : Option R :=
 match x with
 | .slice _ n _ => k (.int .i64 n)
 | _ => none
def aaR (x : Value) : Option Value :=
 match x with
 | .slice _ _ _ => oc x
 | _ => none
def au {R : Type} (c : Value) (x y : Option R) : Option R :=
 match c with
 | .bool true => x
 | .bool false => y
 | _ => none
def tX {α : Type} (y : Option Bool) (want : Bool) (a b : Option α) : Option α :=
 match y == some want with
 | true => a
 | false => b
theorem XX (a b : Value) : aH (.bool true) a b = some a := rfl
theorem GF (a b : Value) : aH (.bool false) a b = some b := rfl
abbrev vi (n : Int) : Value := .int .i64 n
abbrev vw (n : Int) : Value := .int .u64 n
abbrev vu (n : Nat) : Value := .int .u64 (n : Int)
abbrev vb (b : Bool) : Value := .bool b
inductive Stp where
 | n
 | f (k : Nat)
 | i (e : Nat) (v : Value)
 | a (len e : Nat) (v : Value)
def ad {R : Type} : List Stp → Value → (Value → Option R) → Option R
 | [], a, k => k a
 | .n :: p, a, k => (se a).bind fun a => ad p a k
 | .f o :: p, a, k => (CJ o a).bind fun a => ad p a k
 | .i e v :: p, a, k => (mN e a v).bind fun a => ad p a k
 | .a len e v :: p, a, k => (gA len e a v).bind fun a => ad p a k
def ld {R : Type} (p : List Stp) (x : Value) (H : AH) (k : Value → Option R) : Option R := ad p x fun a => (ap a H).bind k
def ldN {R : Type} (n : Nat) (p : List Stp) (x : Value) (H : AH) (k : Value → Option R) : Option R := ad p x fun a => (ax n a H).bind k
def st {R : Type} (n : Nat) (p : List Stp) (x v : Value) (H : AH) (k : AH → Option R) : Option R := ad p x fun a => (cZ n a v H).bind k
def gB (c : Value) (want : Bool) (e : Option Value) : Option Value := tX (yv c) want (e.bind some) (some undef)
def gV (c : Value) (want : Bool) (e : Value) : Option Value := tX (yv c) want (some e) (some undef)
def gE (c : Value) (want : Bool) (H : AH) (e : Option (Value × AH)) : Option (Value × AH) := tX (yv c) want e (some (undef, H))
def CE {R : Type} (c : Value) (want : Bool) : List Stp → Value → (Value → Option R) → Option R
 | [], a, k => k a
 | .n :: p, a, k => (gB c want (se a)).bind fun a => CE c want p a k
 | .f o :: p, a, k => (gB c want (CJ o a)).bind fun a => CE c want p a k
 | .i e v :: p, a, k => (gB c want (mN e a v)).bind fun a => CE c want p a k
 | .a len e v :: p, a, k => (gB c want (gA len e a v)).bind fun a => CE c want p a k
def ed {R : Type} (c : Value) (want : Bool) (p : List Stp) (x : Value) (H : AH) (k : Value → Option R) : Option R := CE c want p x fun a => (gB c want (ap a H)).bind k
def mC {R : Type} (c : Value) (want : Bool) (n : Nat) (p : List Stp) (x : Value) (H : AH) (k : Value → Option R) : Option R := CE c want p x fun a => (gB c want (ax n a H)).bind k
def gR {R : Type} (ps : List (Nat × Nat)) (zero : List Value) (xs : List (Nat × Value)) (k : Value → Option R) : Option R := (cz (fun i => ps[i]?) zero xs).bind fun cs => k (.agg cs.toArray)
def aaZ (e : Nat) (i : Nat) : Option (Nat × Nat) := some (i * e, e)
def sK {R : Type} (len e : Nat) (zero : List Value) (xs : List (Nat × Value)) (H : AH) (k : Value → AH → Option R) : Option R := (cz (aaZ e) (List.replicate len zero).flatten xs).bind fun cs => afN len e cs H k
def gr (D : Nat) (A A' : List Value) : Prop := A.length = A'.length ∧ ∀ t, D.testBit t = false → A[t]? = A'[t]?
def iu (D : Nat) : Nat → List Value → List Value
 | _, [] => []
 | i, v :: vs => (match D.testBit i with | true => undef | false => v) :: iu D (i + 1) vs
def clear (D : Nat) (A : List Value) : List Value := iu D 0 A
theorem u7 (D : Nat) : ∀ (A : List Value) (i : Nat), (iu D i A).length = A.length := by
 intro A
 induction A with
 | nil => intro i; rfl
 | cons v vs ih => intro i; simp [iu, ih]
theorem Cv (D : Nat) : ∀ (A : List Value) (i t : Nat), D.testBit (i + t) = false → (iu D i A)[t]? = A[t]? := by
 intro A
 induction A with
 | nil => intro i t _; rfl
 | cons v vs ih =>
  intro i t h
  cases t with
  | zero => simp only [Nat.add_zero] at h; simp [iu, h]
  | succ t => simp only [iu, List.getElem?_cons_succ]; exact ih (i + 1) t (by rw [show i + 1 + t = i + (t + 1) from by omega]; exact h)
theorem gv (D : Nat) (A : List Value) : gr D A (clear D A) := ⟨(u7 D A 0).symm, fun t h => (Cv D A 0 t (by simpa using h)).symm⟩
def aq {R : Type} (D : Nat) (k : List Value → AH → Option R) : Prop := ∀ A A' H, gr D A A' → k A H = k A' H
def opr (D : Nat) : Operand → Bool
 | .tmp t => !D.testBit t
 | _ => true
def MT (D : Nat) : Option Tmp → Nat
 | some d => match D.testBit d with | true => D ^^^ 2 ^ d | false => D
 | none => D
theorem abQ {D : Nat} {d : Option Tmp} {t : Nat} (h : D.testBit t = false) : (MT D d).testBit t = false := by
 unfold MT
 split
 ·split
  ·rename_i hd
   rw [Nat.testBit_xor, h, Nat.testBit_two_pow];simp;intro e;subst e; rw [h] at hd; cases hd
  ·exact h
 ·exact h
theorem abR {D : Nat} {d : Option Tmp} {t : Nat} (h : (MT D d).testBit t = false) (hd : d ≠ some t) : D.testBit t = false := by
 unfold MT at h
 split at h
 ·rename_i d
  split at h
  ·rename_i hb
   rw [Nat.testBit_xor, Nat.testBit_two_pow] at h;have : ¬ d = t := fun e => hd (by rw [e])
   simpa [this] using h
  ·exact h
 ·exact h
def sd (D : Nat) (ops : Array Oper) (o : Oper) : Bool :=
 o.op.operands.toList.all (opr D) && match o.guard with
 | none => true
 | some g => match (ops[g.1]?).bind (·.dst) with
  | some t => !D.testBit t
  | none => true
def mM (ops : Array Oper) : List Oper → Nat → Option Nat
 | [], D => some D
 | o :: rest, D => match sd D ops o with
  | true => mM ops rest (MT D o.dst)
  | false => none
def qy : Code → Nat → Option Nat
 | .skip, D => some D
 | .label _, D => some D
 | .region _ ops _, D => mM ops ops.toList D
 | .seq x y, D => match qy x D with
  | some D1 => match qy y D1 with
   | some D2 => some D2
   | none => none
  | none => none
 | .cond c x y, D => match opr D c with
  | true => match qy x D, qy y D with
   | some D1, some D2 => some (D1 ||| D2)
   | _, _ => none
  | false => none
 | .block _ x, D => match qy x D with
  | some _ => some D
  | none => none
 | .loop x, D => match qy x D with
  | some _ => some D
  | none => none
 | .exit _, _ => some 0
 | .ret, _ => some 0
 | _, _ => none
section
variable {P : Program} {G : List Nat} {call : a7} {R : Type}
theorem gr.mono {D D' : Nat} {A A' : List Value} (h : gr D A A') (hm : ∀ t, D'.testBit t = false → D.testBit t = false) : gr D' A A' := ⟨h.1, fun t ht => h.2 t (hm t ht)⟩
theorem gr.ev {D : Nat} {A A' : List Value} (h : gr D A A') {x : Operand} (hx : opr D x = true) : dU A x = dU A' x := by
 cases x with
 | tmp t => simp only [opr, Bool.not_eq_true'] at hx; simp only [dU]; rw [h.2 t hx]
 | _ => rfl
theorem gr.put {D : Nat} {A A' : List Value} (h : gr D A A') (d : Option Tmp) (v : Value) : gr (MT D d) (jB A d v) (jB A' d v) := by
 refine ⟨by rw [k7, k7, h.1], fun t ht => ?_⟩
 by_cases hd : d = some t
 ·subst hd; rw [yT, yT, h.1]
 ·rw [sQ hd, sQ hd]; exact h.2 t (abR ht hd)
theorem XJ {ops : Array Oper} : ∀ {l : List Oper} {D D' : Nat}, mM ops l D = some D' → ∀ t, D.testBit t = false → D'.testBit t = false := by
 intro l
 induction l with
 | nil => intro D D' h t ht; simp only [mM] at h; cases h; exact ht
 | cons o l ih =>
  intro D D' h t ht;simp only [mM] at h
  split at h
  ·exact ih h t (abQ ht)
  ·cases h
theorem Gx : ∀ {c : Code} {D D' : Nat}, qy c D = some D' → ∀ t, D.testBit t = false → D'.testBit t = false := by
 intro c
 induction c with
 | skip => intro D D' h t ht; simp only [qy] at h; cases h; exact ht
 | label l => intro D D' h t ht; simp only [qy] at h; cases h; exact ht
 | region id ops draw => intro D D' h; simp only [qy] at h; exact XJ h
 | seq x y ihx ihy =>
  intro D D' h t ht;simp only [qy] at h
  split at h
  ·rename_i D1 h1
   split at h
   ·rename_i D2 h2; cases h; exact ihy h2 t (ihx h1 t ht)
   ·cases h
  ·cases h
 | cond c x y ihx ihy =>
  intro D D' h t ht;simp only [qy] at h
  split at h
  ·split at h
   ·rename_i D1 D2 h1 h2; cases h
    rw [Nat.testBit_or, ihx h1 t ht, ihy h2 t ht]; rfl
   ·cases h
  ·cases h
 | block id x ih => intro D D' h t ht; simp only [qy] at h; split at h <;> cases h; exact ht
 | loop x ih => intro D D' h t ht; simp only [qy] at h; split at h <;> cases h; exact ht
 | exit id => intro D D' h t ht; simp only [qy] at h; cases h; simp
 | ret => intro D D' h t ht; simp only [qy] at h; cases h; simp
 | rangeFunc => intro D D' h; simp [qy] at h
 | scope => intro D D' h; simp [qy] at h
 | goto => intro D D' h; simp [qy] at h
 | refuse => intro D D' h; simp [qy] at h
inductive Both (D : Nat) : Option (List Value × AH) → Option (List Value × AH) → Prop
 | no : Both D none none
 | yes {A A' : List Value} (H : AH) (h : gr D A A') : Both D (some (A, H)) (some (A', H))
theorem TS {ops : Array Oper} {o : Oper} {D : Nat} (ho : sd D ops o = true) {A A' : List Value} (h : gr D A A') (H : AH) : Both (MT D o.dst) (eR P G call ops o A H) (eR P G call ops o A' H) := by
 unfold sd at ho;simp only [Bool.and_eq_true] at ho;have hev : ∀ x ∈ o.op.operands.toList, dU A x = dU A' x := fun x hx => h.ev (List.all_eq_true.1 ho.1 x hx)
 have hw : Region.wanted o (cL ops A) = Region.wanted o (cL ops A') := by
  unfold Region.wanted
  cases hg : o.guard with
  | none => rfl
  | some g =>
   obtain ⟨g, want⟩ := g;rw [hg] at ho
   have hy : cL ops A g = cL ops A' g := by
    unfold cL
    cases hd : (ops[g]?).bind (·.dst) with
    | none => rfl
    | some t =>
     have h2 := ho.2;simp only [hd, Bool.not_eq_true'] at h2;simp only [be];rw [h.2 t h2]
   simp only [hy]
 unfold eR;rw [hw, me hev H]
 split
 ·split
  ·cases dp P call (dU A') o H with
   | none => exact .no
   | some r => exact .yes r.2 (h.put o.dst r.1)
  ·exact .yes H (h.put o.dst undef)
 ·exact .no
theorem tZ {ops : Array Oper} : ∀ {l : List Oper} {D D' : Nat}, mM ops l D = some D' → ∀ {A A' : List Value}, gr D A A' → ∀ H, Both D' (cq P G call ops l A H) (cq P G call ops l A' H) := by
 intro l
 induction l with
 | nil => intro D D' h A A' hA H; simp only [mM] at h; cases h; exact .yes H hA
 | cons o l ih =>
  intro D D' h A A' hA H;simp only [mM] at h
  split at h
  ·rename_i ho
   simp only [cq];have := TS (P := P) (G := G) (call := call) ho hA H
   generalize eR P G call ops o A H = x at this
   generalize eR P G call ops o A' H = y at this
   cases this with
   | no => exact .no
   | yes H1 hA1 => exact ih h hA1 H1
  ·cases h
theorem LH {ops : Array Oper} : ∀ {l : List Oper} {D D' : Nat}, mM ops l D = some D' → ∀ i, ∃ Di, mM ops (l.take i) D = some Di ∧ ∀ o, l[i]? = some o → sd Di ops o = true := by
 intro l
 induction l with
 | nil => intro D D' h i; exact ⟨D, by cases i <;> rfl, fun o ho => by simp at ho⟩
 | cons o l ih =>
  intro D D' h i;simp only [mM] at h
  split at h
  ·rename_i ho
   cases i with
   | zero => exact ⟨D, rfl, fun o' ho' => by simp at ho'; subst ho'; exact ho⟩
   | succ i =>
    obtain ⟨Di, h1, h2⟩ := ih h i;refine ⟨Di, ?_, fun o' ho' => h2 o' (by simpa using ho')⟩;simp only [List.take_succ_cons, mM, ho];exact h1
  ·cases h
theorem QF {ops : Array Oper} {D D' : Nat} (h : mM ops ops.toList D = some D') {A A' : List Value} (hA : gr D A A') (H : AH) : Both D' (kZ P G call ops A H) (kZ P G call ops A' H) := by
 unfold kZ
 split
 ·exact .no
 ·split
  ·exact tZ h hA H
  ·rename_i p ps hp
   have hb := tZ (P := P) (G := G) (call := call) h hA H
   have key : cq P G call ops ops.toList A H ≠ none → ((∀ q ∈ p :: ps, ix P (ip P G call ops A H) ops q) ↔ ∀ q ∈ p :: ps, ix P (ip P G call ops A' H) ops q) := by
    intro hne
    have hst : ∀ i, ∃ Di, gr Di (ip P G call ops A H i).1 (ip P G call ops A' H i).1 ∧ (ip P G call ops A H i).2 = (ip P G call ops A' H i).2 ∧ ∀ o, ops[i]? = some o → sd Di ops o = true := by
     intro i;obtain ⟨Di, h1, h2⟩ := LH h i;have hbi := tZ (P := P) (G := G) (call := call) h1 hA H
     cases hx : cq P G call ops ops.toList A H with
     | none => exact absurd hx hne
     | some r =>
      have h3 := uV hx i;rw [h3] at hbi;unfold ip at hbi ⊢;rw [h3] at hbi ⊢
      generalize cq P G call ops (ops.toList.take i) A' H = y at hbi
      simp only [Option.getD_some] at hbi ⊢
      generalize hz : ip P G call ops A H i = z at hbi
      unfold ip at hz;rw [h3] at hz;simp only [Option.getD_some] at hz
      cases hbi with
      | yes H1 hA1 =>
       exact ⟨Di, hA1, rfl, fun o ho => h2 o (by simpa using ho)⟩
    have one : ∀ q, ix P (ip P G call ops A H) ops q ↔ ix P (ip P G call ops A' H) ops q := by
     intro q;unfold ix;obtain ⟨D1, a1, e1, o1⟩ := hst q.1;obtain ⟨D2, a2, e2, o2⟩ := hst (if q.2 < q.1 then q.2 else q.2 + 1)
     constructor
     ·intro hl o ho
      have hev : ∀ x ∈ o.op.operands.toList, dU (ip P G call ops A H q.1).1 x = dU (ip P G call ops A' H q.1).1 x := fun x hx => a1.ev (by
       have := o1 o ho;unfold sd at this;simp only [Bool.and_eq_true] at this
       exact List.all_eq_true.1 this.1 x hx)
      have := hl o ho;rw [pX hev, pX hev, e1, e2] at this;exact this
     ·intro hl o ho
      have hev : ∀ x ∈ o.op.operands.toList, dU (ip P G call ops A H q.1).1 x = dU (ip P G call ops A' H q.1).1 x := fun x hx => a1.ev (by
       have := o1 o ho;unfold sd at this;simp only [Bool.and_eq_true] at this
       exact List.all_eq_true.1 this.1 x hx)
      rw [pX hev, pX hev, e1, e2];exact hl o ho
    exact ⟨fun hl q hq => (one q).1 (hl q hq), fun hl q hq => (one q).2 (hl q hq)⟩
   have hn : cq P G call ops ops.toList A H = none → cq P G call ops ops.toList A' H = none := by
    intro e; rw [e] at hb; generalize cq P G call ops ops.toList A' H = y at hb; cases hb; rfl
   by_cases hne : cq P G call ops ops.toList A H = none
   ·rw [hne, hn hne]
    unfold HO
    have : ∀ (c : Prop) [Decidable c], (if c then (none : Option (List Value × AH)) else none) = none := fun c _ => by split <;> rfl
    rw [this, this]; exact .no
   ·unfold HO
    by_cases hc : ∀ q ∈ p :: ps, ix P (ip P G call ops A H) ops q
    ·rw [if_pos hc, if_pos ((key hne).1 hc)]; exact hb
    ·rw [if_neg hc, if_neg (fun h => hc ((key hne).2 h))]; exact .no
inductive BothR (D D' : Nat) : Option AR → Option AR → Prop
 | no : BothR D D' none none
 | normal {A A' : List Value} (H : AH) (h : gr D' A A') : BothR D D' (some (.normal, A, H)) (some (.normal, A', H))
 | exit (i : Nat) {A A' : List Value} (H : AH) (h : gr D A A') : BothR D D' (some (.exit i, A, H)) (some (.exit i, A', H))
 | ret {A A' : List Value} (H : AH) (h : gr D A A') : BothR D D' (some (.ret, A, H)) (some (.ret, A', H))
theorem Dk : ∀ {c : Code} {D D' : Nat}, qy c D = some D' → ∀ {A A' : List Value}, gr D A A' → ∀ H, BothR D D' (aI P G call c A H) (aI P G call c A' H) := by
 intro c
 induction c with
 | skip => intro D D' h A A' hA H; simp only [qy] at h; cases h; exact .normal H hA
 | label l => intro D D' h A A' hA H; simp only [qy] at h; cases h; exact .normal H hA
 | exit id => intro D D' h A A' hA H; exact .exit id H hA
 | ret => intro D D' h A A' hA H; exact .ret H hA
 | region id ops draw =>
  intro D D' h A A' hA H;simp only [qy] at h;simp only [aI]
  have hb : Both D' (eC P G call ops draw A H) (eC P G call ops draw A' H) := by
   cases draw with
   | true => exact QF h hA H
   | false => exact tZ h hA H
  generalize eC P G call ops draw A H = x at hb
  generalize eC P G call ops draw A' H = y at hb
  cases hb with
  | no => exact .no
  | yes H1 hA1 => exact .normal H1 hA1
 | seq x y ihx ihy =>
  intro D D' h A A' hA H;simp only [qy] at h
  split at h
  ·rename_i D1 h1
   split at h
   ·rename_i D2 h2
    cases h;simp only [aI];have hb := ihx h1 hA H
    generalize aI P G call x A H = u at hb
    generalize aI P G call x A' H = v at hb
    cases hb with
    | no => exact .no
    | normal H1 hA1 =>
     have hb2 := ihy h2 hA1 H1;simp only [be]
     rename_i A1 A1'
     generalize aI P G call y A1 H1 = u at hb2
     generalize aI P G call y A1' H1 = v at hb2
     cases hb2 with
     | no => exact .no
     | normal H2 hA2 => exact .normal H2 hA2
     | exit i H2 hA2 => exact .exit i H2 (hA2.mono (fun t ht => Gx h1 t ht))
     | ret H2 hA2 => exact .ret H2 (hA2.mono (fun t ht => Gx h1 t ht))
    | exit i H1 hA1 => exact .exit i H1 hA1
    | ret H1 hA1 => exact .ret H1 hA1
   ·cases h
  ·cases h
 | cond c x y ihx ihy =>
  intro D D' h A A' hA H;simp only [qy] at h
  split at h
  ·rename_i hc
   split at h
   ·rename_i D1 D2 h1 h2
    cases h;simp only [aI];rw [hA.ev hc]
    have m1 : ∀ t, (D1 ||| D2).testBit t = false → D1.testBit t = false := fun t ht => by rw [Nat.testBit_or, Bool.or_eq_false_iff] at ht; exact ht.1
    have m2 : ∀ t, (D1 ||| D2).testBit t = false → D2.testBit t = false := fun t ht => by rw [Nat.testBit_or, Bool.or_eq_false_iff] at ht; exact ht.2
    generalize dU A' c = v
    cases v with
    | bool b =>
     cases b with
     | true =>
      have hb := ihx h1 hA H;simp only
      generalize aI P G call x A H = u at hb
      generalize aI P G call x A' H = v at hb
      cases hb with
      | no => exact .no
      | normal H1 hA1 => exact .normal H1 (hA1.mono m1)
      | exit i H1 hA1 => exact .exit i H1 hA1
      | ret H1 hA1 => exact .ret H1 hA1
     | false =>
      have hb := ihy h2 hA H;simp only
      generalize aI P G call y A H = u at hb
      generalize aI P G call y A' H = v at hb
      cases hb with
      | no => exact .no
      | normal H1 hA1 => exact .normal H1 (hA1.mono m2)
      | exit i H1 hA1 => exact .exit i H1 hA1
      | ret H1 hA1 => exact .ret H1 hA1
    | _ => exact .no
   ·cases h
  ·cases h
 | block id x ih =>
  intro D D' h A A' hA H;simp only [qy] at h
  split at h <;> cases h
  rename_i D1 h1
  simp only [aI];have hb := ih h1 hA H
  generalize aI P G call x A H = u at hb
  generalize aI P G call x A' H = v at hb
  cases hb with
  | no => exact .no
  | normal H1 hA1 => exact .normal H1 (hA1.mono (fun t ht => Gx h1 t ht))
  | exit i H1 hA1 =>
   simp only [dx]
   split
   ·exact .normal H1 hA1
   ·exact .exit i H1 hA1
  | ret H1 hA1 => exact .ret H1 hA1
 | loop x ih =>
  intro D D' h A A' hA H;simp only [qy] at h
  split at h <;> cases h
  rename_i D1 h1
  simp only [aI]
  have it : ∀ n {A A' : List Value} (H : AH), gr D A A' → BothR D D (dD (aI P G call x) n A H) (dD (aI P G call x) n A' H) := by
   intro n
   induction n with
   | zero => intro A A' H _; exact .no
   | succ n ihn =>
    intro A A' H hA;simp only [dD];have hb := ih h1 hA H
    generalize aI P G call x A H = u at hb
    generalize aI P G call x A' H = v at hb
    cases hb with
    | no => exact .no
    | normal H1 hA1 => exact ihn H1 (hA1.mono (fun t ht => Gx h1 t ht))
    | exit i H1 hA1 => exact .exit i H1 hA1
    | ret H1 hA1 => exact .ret H1 hA1
  cases hl : nP (aI P G call x) A H with
  | some r =>
   obtain ⟨n, hn⟩ := cp.1 hl;have hb := it n H hA;rw [hn] at hb
   cases hm : dD (aI P G call x) n A' H with
   | none => rw [hm] at hb; cases hb
   | some r' =>
    rw [cp.2 ⟨n, hm⟩];rw [hm] at hb;exact hb
  | none =>
   cases hl' : nP (aI P G call x) A' H with
   | none => exact .no
   | some r' =>
    obtain ⟨n, hn⟩ := cp.1 hl';have hb := it n H hA;rw [hn] at hb
    cases hm : dD (aI P G call x) n A H with
    | none => rw [hm] at hb; cases hb
    | some r => rw [cp.2 ⟨n, hm⟩] at hl; cases hl
 | rangeFunc => intro D D' h; simp [qy] at h
 | scope => intro D D' h; simp [qy] at h
 | goto => intro D D' h; simp [qy] at h
 | refuse => intro D D' h; simp [qy] at h
def C4 (D D' : Nat) : Bool := D ||| D' == D'
theorem P5 {D D' : Nat} (h : C4 D D' = true) : ∀ t, D'.testBit t = false → D.testBit t = false := by
 intro t ht;unfold C4 at h
 have e : D ||| D' = D' := by simpa using h
 rw [← e, Nat.testBit_or, Bool.or_eq_false_iff] at ht;exact ht.1
theorem aq.le {D D' : Nat} {k : List Value → AH → Option R} (h : aq D' k) (hs : C4 D D' = true) : aq D k := fun A A' H hA => h A A' H (hA.mono (P5 hs))
def vR (c : Code) (D D' : Nat) : Bool := match qy c D with
 | some D1 => C4 D1 D'
 | none => false
theorem TC {c : Code} {D D' : Nat} {kn : List Value → AH → Option R} {kx : Nat → List Value → AH → Option R} {kr : List Value → AH → Option R} (h : vR c D D' = true) (hn : aq D' kn) (hx : ∀ i, aq D (kx i)) (hr : aq D kr) :
 aq D (fun A H => aQ P G call c A H kn kx kr) := by
 intro A A' H hA;unfold vR at h
 split at h
 ·rename_i D1 h1
  simp only;rw [sV, sV];have hb := Dk (P := P) (G := G) (call := call) h1 hA H
  generalize aI P G call c A H = u at hb
  generalize aI P G call c A' H = v at hb
  cases hb with
  | no => rfl
  | normal H1 hA1 => exact hn _ _ H1 (hA1.mono (P5 h))
  | exit i H1 hA1 => exact hx i _ _ H1 hA1
  | ret H1 hA1 => exact hr _ _ H1 hA1
 ·cases h
theorem TD {c : Code} {D : Nat} {kx : Nat → List Value → AH → Option R} {kr : List Value → AH → Option R} (h : vR c D D = true) (hx : ∀ i, aq D (kx i)) (hr : aq D kr) :
 aq D (fun A H => gJ P G call c A H kx kr) := by
 intro A A' H hA;unfold vR at h
 split at h
 ·rename_i D1 h1
  have hb := Dk (P := P) (G := G) (call := call) (c := .loop c) (D := D) (D' := D) (by simp only [qy, h1]) hA H;simp only [aI] at hb;simp only [gJ]
  generalize nP (aI P G call c) A H = u at hb
  generalize nP (aI P G call c) A' H = v at hb
  cases hb with
  | no => rfl
  | normal H1 hA1 => rfl
  | exit i H1 hA1 => exact hx i _ _ H1 hA1
  | ret H1 hA1 => exact hr _ _ H1 hA1
 ·cases h
def Ps (D : Nat) (rs : List ResultVar) : Bool := rs.all fun r => match r with
 | .tmp t => !D.testBit t
 | .cell a _ => !D.testBit a
theorem TG {D : Nat} : ∀ {rs : List ResultVar} (_ : Ps D rs = true) (k : List Value → AH → Option R), aq D (fun A H => qV P A H rs fun vs => k vs H) := by
 intro rs
 induction rs with
 | nil => intro _ k A A' H hA; rfl
 | cons r rs ih =>
  intro h k A A' H hA;unfold Ps at h;simp only [List.all_cons, Bool.and_eq_true] at h
  cases r with
  | tmp t =>
   simp only [Bool.not_eq_true'] at h;simp only [qV];rw [hA.2 t h.1];exact ih h.2 (fun vs H => k ((A'[t]?.getD undef) :: vs) H) A A' H hA
  | cell a t =>
   simp only [Bool.not_eq_true'] at h;simp only [qV];rw [hA.2 a h.1, Jr, Jr]
   congr 1
   funext g
   cases g <;> (simp only; congr 1; funext v; exact ih h.2 (fun vs H => k (v :: vs) H) A A' H hA)
theorem Yj {D : Nat} {rs : List ResultVar} (h : Ps D rs = true) : aq D (dV P rs) := TG h fun vs H => some (tup vs, H)
theorem TH {D : Nat} : aq D (fun (_ : List Value) (_ : AH) => (none : Option R)) := fun _ _ _ _ => rfl
theorem Mv {D id : Nat} {kn : List Value → AH → Option R} {kx : Nat → List Value → AH → Option R} (hn : aq D kn) (hx : ∀ i, aq D (kx i)) : ∀ i, aq D (fun A H => if i = id then kn A H else kx i A H) := by
 intro i A A' H hA;simp only
 split
 ·exact hn _ _ _ hA
 ·exact hx i _ _ _ hA
theorem BP {D : Nat} {n : List Value → AH → Option R} (h : aq D n) : aq D (fun A H => n (clear D A) H) := by
 intro A A' H hA;simp only;rw [← h A (clear D A) H (gv D A), ← h A' (clear D A') H (gv D A')];exact h A A' H hA
variable {A : List Value} {H : AH} {kn : List Value → AH → Option R} {kx : Nat → List Value → AH → Option R} {kr : List Value → AH → Option R}
theorem ZD {c x y : Code} {e : Operand} (h : c = .cond e x y) : aQ P G call c A H kn kx kr = au (dU A e) (aQ P G call x A H kn kx kr) (aQ P G call y A H kn kx kr) := by subst h; rfl
theorem HJ {c x : Code} {id : Nat} (h : c = .block id x) {D : Nat} {n : Nat → List Value → AH → Option R} (hn : n = fun i A H => if i = id then kn A H else kx i A H) (hD : ∀ i, aq D (n i)) :
 aQ P G call c A H kn kx kr = aQ P G call x A H kn (fun i A H => n i (clear D A) H) kr := by
 subst h
 have e : (fun i A H => n i (clear D A) H) = n := by
  funext i A H
  exact (hD i A (clear D A) H (gv D A)).symm
 rw [e, hn]; try rfl
theorem aaT {c x : Code} (h : c = .loop x) : aQ P G call c A H kn kx kr = gJ P G call x A H kx kr := by subst h; rfl
theorem LB {x : Code} {D : Nat} {n : List Value → AH → Option R} (hn : n = fun A H => gJ P G call x A H kx kr) (hD : aq D n) : gJ P G call x A H kx kr = n (clear D A) H := by
 have := hD A (clear D A) H (gv D A);rw [← this, hn]
theorem LA {x : Code} {D : Nat} {n : List Value → AH → Option R} (hn : n = fun A H => gJ P G call x A H kx kr) (hD : aq D n) :
 gJ P G call x A H kx kr = aQ P G call x A H (fun A H => n (clear D A) H) kx kr := by
 have e : (fun A H => n (clear D A) H) = n := by
  funext A H
  exact (hD A (clear D A) H (gv D A)).symm
 rw [e, hn]; exact UQ ..
def Code.pre : Nat → Code → Code
 | 0, .seq x _ => x
 | k + 1, .seq x y => .seq x (Code.pre k y)
 | _, c => c
def Code.post : Nat → Code → Code
 | 0, .seq _ y => y
 | k + 1, .seq _ y => Code.post k y
 | _, _ => .skip
theorem adX : ∀ (k : Nat) (c : Code) (A : List Value) (H : AH), aQ P G call c A H kn kx kr = aQ P G call (Code.pre k c) A H (fun A H => aQ P G call (Code.post k c) A H kn kx kr) kx kr := by
 intro k
 induction k with
 | zero => intro c A H; cases c <;> rfl
 | succ k ih =>
  intro c A H
  cases c with
  | seq x y =>
   have e : (fun A H => aQ P G call y A H kn kx kr) = fun A H => aQ P G call (Code.pre k y) A H (fun A H => aQ P G call (Code.post k y) A H kn kx kr) kx kr := by
    funext A H; exact ih y A H
   show aQ P G call x A H (fun A H => aQ P G call y A H kn kx kr) kx kr = _;rw [e]; rfl
  | _ => rfl
variable {l T : Option R}
theorem adY {c : Code} {k D : Nat} {n : List Value → AH → Option R} (h0 : l = aQ P G call c A H kn kx kr) (hn : n = fun A H => aQ P G call (Code.post k c) A H kn kx kr) (hD : aq D n)
 (h1 : aQ P G call (Code.pre k c) A H (fun A H => n (clear D A) H) kx kr = T) : l = T := by
 have e : (fun A H => n (clear D A) H) = n := by
  funext A H
  exact (hD A (clear D A) H (gv D A)).symm
 rw [e, hn] at h1;exact h0.trans ((adX k c A H).trans h1)
theorem U0 {v v' : Value} {x x' y y' : Option R} (h : v = v') (hx : x = x') (hy : y = y') : au v x y = au v' x' y' := by rw [h, hx, hy]
theorem ZE {c x y : Code} {e : Operand} (h0 : l = aQ P G call c A H kn kx kr) (h : c = .cond e x y) (h1 : au (dU A e) (aQ P G call x A H kn kx kr) (aQ P G call y A H kn kx kr) = T) : l = T := h0.trans ((ZD h).trans h1)
theorem UO {c x : Code} {id D : Nat} {n : Nat → List Value → AH → Option R} (h0 : l = aQ P G call c A H kn kx kr) (h : c = .block id x) (hn : n = fun i A H => if i = id then kn A H else kx i A H) (hD : ∀ i, aq D (n i))
 (h1 : aQ P G call x A H kn (fun i A H => n i (clear D A) H) kr = T) : l = T := h0.trans ((HJ h hn hD).trans h1)
theorem aaU {c x : Code} {D : Nat} {n : List Value → AH → Option R} (h0 : l = aQ P G call c A H kn kx kr) (h : c = .loop x) (hn : n = fun A H => gJ P G call x A H kx kr) (hD : aq D n) (h1 : n (clear D A) H = T) : l = T :=
 h0.trans ((aaT h).trans ((LB hn hD).trans h1))
theorem aaV {x : Code} {D : Nat} {n : List Value → AH → Option R} (h0 : l = gJ P G call x A H kx kr) (hn : n = fun A H => gJ P G call x A H kx kr) (hD : aq D n)
 (h1 : aQ P G call x A H (fun A H => n (clear D A) H) kx kr = T) : l = T := h0.trans ((LA hn hD).trans h1)
end
abbrev OV := Option (Value × AH)
abbrev u : Value := undef
abbrev KK := List Value → AH → OV
abbrev KX := Nat → List Value → AH → OV
noncomputable abbrev CK (P : Program) (G : List Nat) (call : a7) (c : Code) (kn : KK) (kx : KX) (kr : KK) : KK := fun A H => aQ P G call c A H kn kx kr
noncomputable abbrev CL (P : Program) (G : List Nat) (call : a7) (c : Code) (kx : KX) (kr : KK) : KK := fun A H => gJ P G call c A H kx kr
abbrev BX (id : Nat) (kn : KK) (kx : KX) : KX := fun i A H => if i = id then kn A H else kx i A H
abbrev dT (D : Nat) (n : KK) : KK := fun A H => n (clear D A) H
abbrev ou (D : Nat) (n : KX) : KX := fun i A H => n i (clear D A) H
def bv : KX := fun _ _ _ => none
def ae6 : Nat := 2 ^ 4096 - 1
def ls (l : List Value) (n : Nat) : List Value := l ++ List.replicate n u
section
variable {P : Program} {G : List Nat} {call : a7} {A : List Value} {H : AH} {kn : KK} {kx : KX} {kr : KK} {l T : OV}
theorem aA : ∀ i, aq ae6 (bv i) := fun _ => TH
theorem rf {rs : List ResultVar} {D : Nat} (h : Ps D rs = true := by kernel_rfl) : aq D (dV P rs) := Yj h
theorem rc {c : Code} {D Dn Dx Dr : Nat} (hn : aq Dn kn) (hx : ∀ i, aq Dx (kx i)) (hr : aq Dr kr) (h : (vR c D Dn && (C4 D Dx && C4 D Dr)) = true := by kernel_rfl) : aq D (CK P G call c kn kx kr) := by
 simp only [Bool.and_eq_true] at h;exact TC h.1 hn (fun i => (hx i).le h.2.1) (hr.le h.2.2)
theorem rl {c : Code} {D Dx Dr : Nat} (hx : ∀ i, aq Dx (kx i)) (hr : aq Dr kr) (h : (vR c D D && (C4 D Dx && C4 D Dr)) = true := by kernel_rfl) : aq D (CL P G call c kx kr) := by
 simp only [Bool.and_eq_true] at h;exact TD h.1 (fun i => (hx i).le h.2.1) (hr.le h.2.2)
theorem rb {D id Dn Dx : Nat} (hn : aq Dn kn) (hx : ∀ i, aq Dx (kx i)) (h : (C4 D Dn && C4 D Dx) = true := by kernel_rfl) : ∀ i, aq D (BX id kn kx i) := by
 simp only [Bool.and_eq_true] at h;exact Mv (hn.le h.1) (fun i => (hx i).le h.2)
theorem cd {D : Nat} {n : KK} (h : aq D n) : aq D (dT D n) := BP h
theorem cx {D : Nat} {n : KX} (h : ∀ i, aq D (n i)) : ∀ i, aq D (ou D n i) := fun i => BP (h i)
theorem pt {c : Code} {D : Nat} {n : KK} (h0 : l = aQ P G call c A H kn kx kr) (k : Nat) (hD : aq D n) (h1 : aQ P G call (Code.pre k c) A H (dT D n) kx kr = T)
 (hn : n = fun A H => aQ P G call (Code.post k c) A H kn kx kr := by kernel_rfl) : l = T := adY h0 hn hD h1
theorem ct {c : Code} (h0 : l = aQ P G call c A H kn kx kr) (x y : Code) (e : Operand) {v : Value} {X Y : OV} (hx : aQ P G call x A H kn kx kr = X) (hy : aQ P G call y A H kn kx kr = Y)
 (h : c = .cond e x y := by kernel_rfl) (he : dU A e = v := by kernel_rfl) : l = au v X Y := ZE h0 h (U0 he hx hy)
theorem bt {c : Code} {D : Nat} {n : KX} (h0 : l = aQ P G call c A H kn kx kr) (x : Code) (id : Nat) (hD : ∀ i, aq D (n i)) (h1 : aQ P G call x A H kn (ou D n) kr = T)
 (h : c = .block id x := by kernel_rfl) (hn : n = fun i A H => if i = id then kn A H else kx i A H := by kernel_rfl) : l = T := UO h0 h hn hD h1
theorem li {c : Code} {D : Nat} {n : KK} (h0 : l = aQ P G call c A H kn kx kr) (x : Code) (hD : aq D n) (h1 : n (clear D A) H = T) (h : c = .loop x := by kernel_rfl)
 (hn : n = fun A H => gJ P G call x A H kx kr := by kernel_rfl) : l = T := aaU h0 h hn hD h1
theorem xS {x : Code} {D : Nat} {n : KK} (h0 : l = gJ P G call x A H kx kr) (hD : aq D n) (h1 : aQ P G call x A H (dT D n) kx kr = T)
 (hn : n = fun A H => gJ P G call x A H kx kr := by kernel_rfl) : l = T := aaV h0 hn hD h1
theorem JJ {id : Nat} (h0 : l = BX id kn kx id A H) (h1 : kn A H = T) : l = T := by rw [h0, ← h1]; simp [BX]
theorem fo {f : Nat} {fn : Func} (hf : P.funcs[f]? = some fn) {args : List Value} {t : OV} {r : Value × AH} (e : Nd P G (aF P G) fn.ntmps fn.results.toList (bw fn) args H = t) (h : t = some r)
 (hb : fn.body.isSome = true := by kernel_rfl) (hn : (fn.name == "runtime.NumGoroutine") = false := by kernel_rfl) (hd : jo (bw fn) = none := by kernel_rfl) : aF P G f args H = some r := JQ hf hb hn hd (e.trans h)
end
end Go.Proofs.YtghoamdlcjdfjaaGreatDoor.Gst
namespace Go.Proofs.YtghoamdlcjdfjaaGreatDoor.Gst
open Go Go.RowKit Go.ChangeShapes
set_option linter.unusedSimpArgs false
def d6 (H H' : AH) : Prop := H.size ≤ H'.size ∧ ∀ b, b < H.size → H'.get b = H.get b
theorem d6.refl (H : AH) : d6 H H := ⟨bm _, fun _ _ => rfl⟩
theorem d6.trans {A B C : AH} (h : d6 A B) (k : d6 B C) : d6 A C := ⟨ep h.1 k.1, fun b hb => by rw [k.2 b (by have := h.1; omega), h.2 b hb]⟩
theorem d6.push (H : AH) (o : AObj) : d6 H (H.push o) := ⟨by rw [AH.size_push]; omega, fun b hb => AH.get_push_old hb⟩
theorem d6.get {H H' : AH} (h : d6 H H') {b : Nat} {o : AObj} (hb : H.get b = some o) : H'.get b = some o := by rw [h.2 b (AH.lt_of_get hb)]; exact hb
inductive Ty where
 | int (k : IntKind)
 | bool
 | slice (t : Ty)
 | unit
 | pair (a b : Ty)
def Ty.w : Ty → Nat
 | .int _ | .bool | .slice _ => 1
 | .unit => 0
 | .pair a b => a.w + b.w
abbrev Ty.I : Ty → Type
 | .int _ => Int
 | .bool => Bool
 | .slice t => List t.I
 | .unit => Unit
 | .pair a b => a.I × b.I
inductive jn {α : Type} (R : α → List Value → Prop) : List α → List Value → Prop
 | nil : jn R [] []
 | cons {x : α} {l : List α} {c cs : List Value} (h : R x c) (k : jn R l cs) : jn R (x :: l) (c ++ cs)
def Abs (H : AH) : (t : Ty) → t.I → List Value → Prop
 | .int k, n, cs => cs = [.int k n] ∧ (Lit.int k n).wf = true
 | .bool, b, cs => cs = [.bool b]
 | .unit, _, cs => cs = []
 | .pair a b, x, cs => ∃ c1 c2, cs = c1 ++ c2 ∧ Abs H a x.1 c1 ∧ Abs H b x.2 c2
 | .slice t, l, cs => (l = [] ∧ cs = [.slice none 0 0]) ∨ (l = [] ∧ ∃ b, cs = [.slice (some ⟨b, 0, none⟩) 0 0]) ∨
  ∃ b row, H.get b = some (.cells true row) ∧ cs = [.slice (some ⟨b, 0, none⟩) l.length t.w] ∧ jn (Abs H t) l row ∧ l.length ≤ maxLen
theorem jn.mono {α : Type} {R S : α → List Value → Prop} (h : ∀ x c, R x c → S x c) {l : List α} {cs : List Value} (k : jn R l cs) : jn S l cs := by
 induction k with
 | nil => exact .nil
 | cons h1 _ ih => exact .cons (h _ _ h1) ih
theorem Abs.keep {H H' : AH} (k : d6 H H') : ∀ (t : Ty) (x : t.I) (cs : List Value), Abs H t x cs → Abs H' t x cs := by
 intro t
 induction t with
 | int k => intro x cs h; exact h
 | bool => intro x cs h; exact h
 | unit => intro x cs h; exact h
 | pair a b iha ihb =>
  intro x cs h;obtain ⟨c1, c2, e, h1, h2⟩ := h;exact ⟨c1, c2, e, iha _ _ h1, ihb _ _ h2⟩
 | slice t ih =>
  intro x cs h
  rcases h with h | h | ⟨b, row, h1, h2, h3, h4⟩
  ·exact .inl h
  ·exact .inr (.inl h)
  ·exact .inr (.inr ⟨b, row, k.get h1, h2, h3.mono ih, h4⟩)
theorem jn.length {α : Type} {R : α → List Value → Prop} {n : Nat} (h : ∀ x c, R x c → c.length = n) {l : List α} {cs : List Value} (k : jn R l cs) : cs.length = l.length * n := by
 induction k with
 | nil => simp
 | cons h1 _ ih => rw [mH, h _ _ h1, ih, List.length_cons, Nat.add_mul]; omega
theorem Abs.length {H : AH} : ∀ (t : Ty) (x : t.I) (cs : List Value), Abs H t x cs → cs.length = t.w := by
 intro t
 induction t with
 | int k => intro x cs h; rw [h.1]; rfl
 | bool => intro x cs h; have h : cs = _ := h; rw [h]; rfl
 | unit => intro x cs h; have h : cs = _ := h; rw [h]; rfl
 | pair a b iha ihb =>
  intro x cs h;obtain ⟨c1, c2, e, h1, h2⟩ := h;rw [e, mH, iha _ _ h1, ihb _ _ h2]; rfl
 | slice t ih =>
  intro x cs h
  rcases h with h | ⟨_, b, h⟩ | ⟨b, row, h1, h2, h3, h4⟩
  ·rw [h.2]; rfl
  ·rw [h]; rfl
  ·rw [h2]; rfl
def zw : (t : Ty) → t.I → Prop
 | .int _, _ => True
 | .bool, _ => True
 | .unit, _ => True
 | .pair a b, x => zw a x.1 ∧ zw b x.2
 | .slice t, l => l.length ≤ reachBytes ∧ ∀ x ∈ l, zw t x
def wOK {Hd : Type} (P : Program) (t : TypeId) (d : DataW Hd) : Prop := ∀ n ∈ DataW.weights P t d, n ≤ reachBytes
theorem pS {Hd : Type} {P : Program} {e : TypeId} {d : DataW Hd} {n : Nat} : ∀ {l : List (DataW Hd)}, d ∈ l → n ∈ DataW.weights P e d → n ∈ DataW.weightsAll P e l := by
 intro l
 induction l with
 | nil => intro h; cases h
 | cons x l ih =>
  intro h hn;rw [DataW.weightsAll, List.mem_append]
  rcases List.mem_cons.1 h with rfl | h
  ·exact .inl hn
  ·exact .inr (ih h hn)
theorem yS {Hd : Type} {P : Program} {n : Nat} : ∀ {ts : List TypeId} {ds : List (DataW Hd)} {i : Nat} {t : TypeId} {d : DataW Hd}, ts[i]? = some t → ds[i]? = some d → n ∈ DataW.weights P t d → n ∈ DataW.weightsEach P ts ds := by
 intro ts
 induction ts with
 | nil => intro ds i t d h; simp at h
 | cons t0 ts ih =>
  intro ds i t d h1 h2 hn
  cases ds with
  | nil => simp at h2
  | cons d0 ds =>
   rw [DataW.weightsEach, List.mem_append]
   cases i with
   | zero =>
    simp at h1 h2;subst h1; subst h2;exact .inl hn
   | succ i => exact .inr (ih (by simpa using h1) (by simpa using h2) hn)
def oa (P : Program) : Ty → (TypeId → Bool) × (List Field → Nat → Bool)
 | .int k => (fun t => match P.underlying t with | some (.int k') => k' == k && P.cellsOf t == 1 | _ => false, fun _ _ => false)
 | .bool => (fun t => match P.underlying t with | some .bool => P.cellsOf t == 1 | _ => false, fun _ _ => false)
 | .slice ty => (fun t => match P.underlying t with | some (.slice e) => (oa P ty).1 e && P.cellsOf e == ty.w && decide (0 < ty.w ∧ 0 < P.bytesOf e) && P.cellsOf t == 1 | _ => false, fun _ _ => false)
 | .unit => (fun _ => false, fun fs _ => fs.isEmpty)
 | .pair a b =>
  let F : List Field → Nat → Bool := fun fs off => match fs with
   | f :: fs => f.offset == off && (oa P a).1 f.type && P.cellsOf f.type == a.w && (oa P b).2 fs (off + a.w)
   | [] => false
  (fun t => match P.underlying t with | some (.struct fs) => P.cellsOf t == a.w + b.w && F fs.toList 0 | _ => false, F)
section
variable {Hd : Type} {enc : TypeId × Value → Hd} {P : Program} {w : World} {held : Bool}
theorem Rel.pushRo {B : Nat} {w0 : World} {ρ : bg} {H : AH} (h : Rel P w0 B ρ H w) {row : List Value} {c d sz : Nat} (hc : c < w.heap.size) (hcB : c < B) (hor : ow P ρ d sz (.cells true row) w.heap[c]?) :
 Rel P w0 B (ρ.upd H.size (c, d, sz)) (H.push (.cells true row)) w := by
 have hnone : ρ H.size = none := by
  cases hn : ρ H.size with
  | none => rfl
  | some x => have := h.dom _ _ hn; omega
 have hle := bg.upd_le (x := (c, d, sz)) hnone
 have key : ∀ b1 o1, (H.push (.cells true row)).get b1 = some o1 → (b1 = H.size ∧ o1 = .cells true row) ∨ (b1 < H.size ∧ H.get b1 = some o1) := by
  intro b1 o1 h1;rw [AH.get_push] at h1
  by_cases hb1 : b1 = H.size
  ·rw [if_pos hb1] at h1; exact .inl ⟨hb1, (eu h1).symm⟩
  ·rw [if_neg hb1] at h1; exact .inr ⟨AH.lt_of_get h1, h1⟩
 have old : ∀ {b1 c1 d1 sz1}, b1 < H.size → ρ.upd H.size (c, d, sz) b1 = some (c1, d1, sz1) → ρ b1 = some (c1, d1, sz1) := by
  intro b1 c1 d1 sz1 hb1 hx
  rwa [bg.upd_ne (by omega)] at hx
 have new : ∀ {c1 d1 sz1}, ρ.upd H.size (c, d, sz) H.size = some (c1, d1, sz1) → c1 = c ∧ d1 = d ∧ sz1 = sz := by
  intro c1 d1 sz1 hx;rw [bg.upd_same] at hx;cases hx;exact ⟨rfl, rfl, rfl⟩
 refine ⟨h.base, h.below, ?_, ?_, ?_, ?_, ?_, ?_⟩
 ·intro b1 x hx
  rw [AH.size_push]
  by_cases hb1 : b1 = H.size
  ·omega
  ·rw [bg.upd_ne hb1] at hx; have := h.dom b1 x hx; omega
 ·intro b1 c1 d1 sz1 hx
  by_cases hb1 : b1 = H.size
  ·subst hb1
   obtain ⟨rfl, _, _⟩ := new hx;exact hc
  ·rw [bg.upd_ne hb1] at hx; exact h.blk b1 c1 d1 sz1 hx
 ·intro b1 c1 d1 sz1 o1 hx h1
  rcases key b1 o1 h1 with ⟨rfl, rfl⟩ | ⟨hb1, h1⟩
  ·obtain ⟨rfl, rfl, rfl⟩ := new hx
   exact hor.mono hle
  ·exact (h.obj b1 c1 d1 sz1 o1 (old hb1 hx) h1).mono hle
 ·intro b1 c1 d1 sz1 o1 hx h1 hrw
  rcases key b1 o1 h1 with ⟨rfl, rfl⟩ | ⟨hb1, h1⟩
  ·cases hrw
  ·exact h.own b1 c1 d1 sz1 o1 (old hb1 hx) h1 hrw
 ·intro b1 c1 d1 sz1 cs1 hx h1
  rcases key b1 _ h1 with ⟨rfl, _⟩ | ⟨hb1, h1⟩
  ·obtain ⟨rfl, _, _⟩ := new hx
   exact hcB
  ·exact h.ro b1 c1 d1 sz1 cs1 (old hb1 hx) h1
 ·intro b1 b2 c1 d1 d2 sz1 sz2 o1 o2 hx1 hx2 h1 h2 hr1 hr2
  rcases key b1 o1 h1 with ⟨rfl, rfl⟩ | ⟨hb1, h1⟩
  ·cases hr1
  ·rcases key b2 o2 h2 with ⟨rfl, rfl⟩ | ⟨hb2, h2⟩
   ·cases hr2
   ·exact h.inj b1 b2 c1 d1 d2 sz1 sz2 o1 o2 (old hb1 hx1) (old hb2 hx2) h1 h2 hr1 hr2
theorem I9 {B : Nat} {w0 : World} {ρ : bg} {H : AH} (h : Rel P w0 B ρ H w) (x : Nat × Nat × Nat) : ∀ b y, ρ b = some y → ρ.upd H.size x b = some y :=
 bg.upd_le (by
  cases hn : ρ H.size with
  | none => rfl
  | some x => have := h.dom _ _ hn; omega)
def Got (P : Program) (w : World) (ρ : bg) (H : AH) (ty : Ty) (cs : List Value) (ρ' : bg) (H' : AH) : Prop :=
 ∃ x avs, Rel P w w.heap.size ρ' H' w ∧ (∀ b y, ρ b = some y → ρ' b = some y) ∧ d6 H H' ∧ LRel P ρ' avs cs ∧ Abs H' ty x avs ∧ zw ty x
theorem wO {fuel : Nat} {t : TypeId} {cs : List Value} {x : DataW Hd × List MemPlace} (h : DataW.trod enc P w 0 (fun _ => true) held fuel t cs = some x) : ∃ n, fuel = n + 1 := by
 cases fuel with
 | zero => simp [DataW.trod] at h
 | succ n => exact ⟨n, rfl⟩
theorem PV {ty : Ty} {e : TypeId} {n : Nat} (ih : ∀ (cs : List Value) (x : DataW Hd × List MemPlace) (ρ : bg) (H : AH), Rel P w w.heap.size ρ H w → DataW.trod enc P w 0 (fun _ => true) held n e cs = some x → wOK P e x.1 → ∃ ρ' H', Got P w ρ H ty cs ρ' H')
 (a : Addr) : ∀ (m i : Nat) (ρ : bg) (H : AH), Rel P w w.heap.size ρ H w → (∀ j, i ≤ j → j < i + m → ∃ y, (w.cells? 0 (a.add (j * ty.w)) ty.w).bind (DataW.trod enc P w 0 (fun _ => true) held n e) = some y ∧ wOK P e y.1) →
  ∃ ρ' H' l row cc, Rel P w w.heap.size ρ' H' w ∧ (∀ b y, ρ b = some y → ρ' b = some y) ∧ d6 H H' ∧ l.length = m ∧ jn (Abs H' ty) l row ∧ LRel P ρ' row cc ∧ (∀ k, k < m * ty.w → w.cell? (a.add (i * ty.w + k)) = cc[k]?) ∧ cc.length = m * ty.w ∧ ∀ x ∈ l, zw ty x := by
 intro m
 induction m with
 | zero =>
  intro i ρ H hR _;exact ⟨ρ, H, [], [], [], hR, fun _ _ h => h, d6.refl H, rfl, .nil, LRel.nil, fun k hk => by omega, by simp, fun x hx => by cases hx⟩
 | succ m ihm =>
  intro i ρ H hR hel;obtain ⟨y, hy, hwy⟩ := hel i (bm _) (by omega);obtain ⟨cs, hcs, hy⟩ := az.1 hy;obtain ⟨ρ1, H1, x, avs, hR1, hle1, hk1, hl1, ha1, hs1⟩ := ih cs y ρ H hR hy hwy;obtain ⟨ρ2, H2, l, row, cc, hR2, hle2, hk2, hlen, hrow, hl2, hcell, hcl, hs2⟩ := ihm (i + 1) ρ1 H1 hR1 (fun j h1 h2 => hel j (by omega) (by omega));obtain ⟨_, hcsl, hcsg⟩ := World.cells?_some hcs;refine ⟨ρ2, H2, x :: l, avs ++ row, cs ++ cc, hR2, fun b y h => hle2 b y (hle1 b y h), hk1.trans hk2, by simp [hlen], .cons (Abs.keep hk2 ty x avs ha1) hrow, (hl1.mono hle2).append hl2, ?_, ?_, ?_⟩
  ·intro k hk
   have hmul : (m + 1) * ty.w = ty.w + m * ty.w := by rw [Nat.add_mul]; omega
   have hmul2 : (i + 1) * ty.w = i * ty.w + ty.w := by rw [Nat.add_mul]; omega
   by_cases hkw : k < ty.w
   ·rw [List.getElem?_append_left (by omega), ← hcsg k hkw]
    congr 1
    unfold Addr.add
    repeat' split
    all_goals first | rfl | omega | (simp; done) | (simp; omega)
   ·rw [List.getElem?_append_right (by omega), hcsl, ← hcell (k - ty.w) (by omega), hmul2]
    congr 2
    omega
  ·rw [mH, hcsl, hcl, Nat.add_mul]; omega
  ·intro z hz
   rcases List.mem_cons.1 hz with rfl | hz
   ·exact hs1
   ·exact hs2 z hz
theorem YN : ∀ (ty : Ty),
 (∀ (t : TypeId), (oa P ty).1 t = true → ∀ (fuel : Nat) (cs : List Value) (x : DataW Hd × List MemPlace) (ρ : bg) (H : AH), Rel P w w.heap.size ρ H w → DataW.trod enc P w 0 (fun _ => true) held fuel t cs = some x → wOK P t x.1 → ∃ ρ' H', Got P w ρ H ty cs ρ' H') ∧
 (∀ (fs : List Field) (off : Nat), (oa P ty).2 fs off = true → ∀ (fuel : Nat) (cs : List Value) (ρ : bg) (H : AH), Rel P w w.heap.size ρ H w → cs.length = off + ty.w →
  (∀ f ∈ fs, ∃ y, DataW.trod enc P w 0 (fun _ => true) held fuel f.type ((cs.drop f.offset).take (P.cellsOf f.type)) = some y ∧ wOK P f.type y.1) → ∃ ρ' H', Got P w ρ H ty (cs.drop off) ρ' H') := by
 intro ty
 induction ty with
 | int k =>
  refine ⟨?_, fun fs off h => by cases h⟩;intro t ht fuel cs x ρ H hR h hwx;obtain ⟨n, rfl⟩ := wO h;simp only [oa] at ht
  split at ht
  ·rename_i k' hu
   simp only [Bool.and_eq_true, beq_iff_eq] at ht;obtain ⟨rfl, _⟩ := ht;obtain ⟨n, rfl, _, hw⟩ := DataW.trod_int hu h;exact ⟨ρ, H, n, [.int k' n], hR, fun _ _ h => h, d6.refl H, LRel.of_all rfl, ⟨rfl, hw⟩, trivial⟩
  ·cases ht
 | bool =>
  refine ⟨?_, fun fs off h => by cases h⟩;intro t ht fuel cs x ρ H hR h hwx;obtain ⟨n, rfl⟩ := wO h;simp only [oa] at ht
  split at ht
  ·rename_i hu
   obtain ⟨b, rfl, _⟩ := DataW.trod_bool hu h;exact ⟨ρ, H, b, [.bool b], hR, fun _ _ h => h, d6.refl H, LRel.of_all rfl, rfl, trivial⟩
  ·cases ht
 | unit =>
  refine ⟨fun t h => by (cases h), ?_⟩;intro fs off hfs fuel cs ρ H hR hl h;refine ⟨ρ, H, (), [], hR, fun _ _ h => h, d6.refl H, ?_, rfl, trivial⟩;have : cs.drop off = [] := List.drop_eq_nil_of_le (by simp [Ty.w] at hl; omega);rw [this]; exact LRel.nil
 | slice ty ih =>
  refine ⟨?_, fun fs off h => by cases h⟩;intro t ht fuel cs x ρ H hR h hwx;simp only [oa] at ht
  split at ht
  ·rename_i e hu
   simp only [Bool.and_eq_true, beq_iff_eq, decide_eq_true_eq] at ht;obtain ⟨⟨⟨ht, he⟩, hw, hby⟩, _⟩ := ht
   rcases DataW.trod_slice hu h with ⟨rfl, _⟩ | ⟨a, len, cap, elems, rest, n, rfl, rfl, hx, _, hlc, hcm, hlen, hel, hsp, _⟩
   ·exact ⟨ρ, H, [], [.slice none 0 0], hR, fun _ _ h => h, d6.refl H, LRel.of_all rfl, .inl ⟨rfl, rfl⟩, Nat.zero_le _, fun x hx => by cases hx⟩
   ·have hwt : DataW.weights P t x.1 = (elems.length + rest.length) * P.bytesOf e :: (DataW.weightsAll P e (elems.map (·.1)) ++ DataW.weightsAll P e (rest.map (·.1))) := by
     rw [hx];unfold DataW.weights;rw [hu];simp
    have hreach : len ≤ reachBytes := by
     have h1 := hwx _ (by rw [hwt]; exact List.mem_cons_self)
     have h2 : len + rest.length ≤ (elems.length + rest.length) * P.bytesOf e := by
      rw [hlen]
      exact Nat.le_mul_of_pos_right _ hby
     omega
    have hwe : ∀ (y : DataW Hd × List MemPlace), (y ∈ elems ∨ y ∈ rest) → wOK P e y.1 := by
     intro y hy n hn;refine hwx n ?_;rw [hwt, List.mem_cons, List.mem_append]
     rcases hy with hy | hy
     ·exact .inr (.inl (pS (List.mem_map.2 ⟨y, hy, rfl⟩) hn))
     ·exact .inr (.inr (pS (List.mem_map.2 ⟨y, hy, rfl⟩) hn))
    rw [he] at hel hsp
    by_cases hc0 : cap = 0
    ·subst hc0
     obtain rfl : len = 0 := by omega
     exact ⟨ρ, H, [], [.slice (some ⟨0, 0, none⟩) 0 0], hR, fun _ _ h => h, d6.refl H, LRel.cons .empty LRel.nil, .inr (.inl ⟨rfl, 0, rfl⟩), Nat.zero_le _, fun x hx => by cases hx⟩
    ·have all : ∀ j, 0 ≤ j → j < 0 + cap → ∃ y, (w.cells? 0 (a.add (j * ty.w)) ty.w).bind (DataW.trod enc P w 0 (fun _ => true) held n e) = some y ∧ wOK P e y.1 := by
      intro j _ hj
      by_cases hjl : j < len
      ·rw [hel j hjl]
       exact ⟨elems[j]'(by omega), bu (by omega), hwe _ (.inl (AV _))⟩
      ·obtain ⟨hr1, hr2⟩ := hsp rfl
       have := hr2 (j - len) (by omega);rw [show len + (j - len) = j from by omega] at this;rw [this];exact ⟨rest[j - len]'(by omega), bu (by omega), hwe _ (.inr (AV _))⟩
     -- all cells of its room are there
     obtain ⟨_, _, _, _, cca, _, _, _, _, _, _, hca, hcal, _⟩ := PV (fun cs x ρ H => ih.1 e ht n cs x ρ H) a cap 0 ρ H hR all;obtain ⟨ρ1, H1, l, row, cc, hR1, hle1, hk1, hll, hrow, hl1, hcell, hcl, hsm⟩ := PV (fun cs x ρ H => ih.1 e ht n cs x ρ H) a len 0 ρ H hR (fun j h1 h2 => all j h1 (by omega));have hpos : 0 < cap * ty.w := Nat.mul_pos (by omega) hw;have h0 := hca 0 hpos;have hsome : ∃ v, cca[0]? = some v := ⟨cca[0]'(by omega), bu (by omega)⟩;obtain ⟨v0, hv0⟩ := hsome;rw [hv0] at h0
     have hadd0 : a.add (0 * ty.w + 0) = a := by simp [Addr.add]
     rw [hadd0] at h0;unfold World.cell? at h0
     split at h0
     ·rename_i c el fz hblk
      split at h0
      ·cases h0
      ·rename_i hspot
       obtain ⟨ab, ao, as'⟩ := a
       have : as' = none := by cases as' with | none => rfl | some _ => simp at hspot
       subst this
       have cellsAt : ∀ k, k < cap * ty.w → c[ao + k]? = cca[k]? := by
        intro k hk;have := hca k hk;rw [show 0 * ty.w + k = k from by omega, Addr.add_lit] at this;unfold World.cell? at this;simp only [hblk, Option.isSome_none] at this
        simpa using this
       have hfit : ao + cap * ty.w ≤ c.size := by
        have := cellsAt (cap * ty.w - 1) (by omega);rw [bu (by omega)] at this;have := (Array.getElem?_eq_some_iff.1 this).1;omega
       have hsub : len * ty.w ≤ cap * ty.w := Nat.mul_le_mul_right _ hlc
       have hrl : row.length = len * ty.w := by rw [hl1.1, hcl]
       have hccs : (c.toList.drop ao).take row.length = cc := by
        apply List.ext_getElem?;intro k;rw [hrl, List.getElem?_take]
        by_cases hk : k < len * ty.w
        ·rw [if_pos hk, List.getElem?_drop]
         have h1 := hcell k hk;rw [show 0 * ty.w + k = k from by omega, Addr.add_lit] at h1;unfold World.cell? at h1;simp only [hblk, Option.isSome_none] at h1;rw [← h1];simp
        ·rw [if_neg hk, List.getElem?_eq_none (by omega)]
       have hblk' : w.heap[ab]? = some (.cells c el fz) := hblk;have hab : ab < w.heap.size := (Array.getElem?_eq_some_iff.1 hblk').1;have hp := hR1.pushRo (row := row) (c := ab) (d := ao) (sz := c.size) hab hab ⟨c, el, fz, hblk', rfl, by omega, (fun h => by cases h), by rw [hccs]; exact hl1⟩;have hkp := d6.push H1 (.cells true row);refine ⟨_, _, l, [.slice (some ⟨H1.size, 0, none⟩) l.length ty.w], hp, fun b y h => I9 hR1 _ b y (hle1 b y h), hk1.trans hkp, LRel.cons ?_ LRel.nil, .inr (.inr ⟨H1.size, row, AH.get_push_new _ _, rfl, hrow.mono (Abs.keep hkp ty), by omega⟩), by rw [hll]; exact hreach, hsm⟩;rw [hll];have := VRel.slice (P := P) (ρ := ρ1.upd H1.size (ab, ao, c.size)) (b := H1.size) (o := 0) (n := len) (e := ty.w) (c := ab) (d := ao) (sz := c.size) (k := cap) (bg.upd_same ..) (by omega) hlc hw
       simpa using this
     ·cases h0
  ·cases ht
 | pair a b iha ihb =>
  have fields : ∀ (fs : List Field) (off : Nat), (oa P (.pair a b)).2 fs off = true → ∀ (fuel : Nat) (cs : List Value) (ρ : bg) (H : AH), Rel P w w.heap.size ρ H w → cs.length = off + (a.w + b.w) →
   (∀ f ∈ fs, ∃ y, DataW.trod enc P w 0 (fun _ => true) held fuel f.type ((cs.drop f.offset).take (P.cellsOf f.type)) = some y ∧ wOK P f.type y.1) → ∃ ρ' H', Got P w ρ H (.pair a b) (cs.drop off) ρ' H' := by
   intro fs off hfs fuel cs ρ H hR hl h;simp only [oa] at hfs
   cases fs with
   | nil => cases hfs
   | cons f fs =>
    simp only [Bool.and_eq_true, beq_iff_eq] at hfs;obtain ⟨⟨⟨h1, h2⟩, h3⟩, h4⟩ := hfs;obtain ⟨y, hy, hwy⟩ := h f (by simp);rw [h1, h3] at hy;obtain ⟨ρ1, H1, x1, a1, hR1, hle1, hk1, hl1, ha1, hs1⟩ := iha.1 f.type h2 fuel _ y ρ H hR hy hwy;obtain ⟨ρ2, H2, x2, a2, hR2, hle2, hk2, hl2, ha2, hs2⟩ := ihb.2 fs (off + a.w) h4 fuel cs ρ1 H1 hR1 (by omega) (fun g hg => h g (by simp [hg]));refine ⟨ρ2, H2, (x1, x2), a1 ++ a2, hR2, fun b y h => hle2 b y (hle1 b y h), hk1.trans hk2, ?_, ⟨a1, a2, rfl, Abs.keep hk2 a x1 a1 ha1, ha2⟩, hs1, hs2⟩
    have e : cs.drop off = (cs.drop off).take a.w ++ cs.drop (off + a.w) := by
     rw [← List.drop_drop];exact (List.take_append_drop a.w (cs.drop off)).symm
    rw [e];exact (hl1.mono hle2).append hl2
  refine ⟨?_, fields⟩;intro t ht fuel cs x ρ H hR h hwx;obtain ⟨n, rfl⟩ := wO h;have JJ := ht;simp only [oa] at ht
  split at ht
  ·rename_i fs hu
   simp only [Bool.and_eq_true, beq_iff_eq] at ht;obtain ⟨xs, n', _, hxe, hlen, hxl, hxs⟩ := DataW.trod_struct hu h
   have := fields fs.toList 0 ht.2 n' cs ρ H hR (by rw [hlen, ht.1]; simp) (fun f hf => by
    obtain ⟨i, hi, rfl⟩ := List.mem_iff_getElem.1 hf;have := hxs i fs.toList[i] (by simp);rw [this]
    have hix : i < xs.length := by rw [hxl]; simpa using hi
    refine ⟨xs[i]'hix, bu _, fun n hn => hwx n ?_⟩;rw [hxe];unfold DataW.weights;rw [hu]
    exact yS (i := i) (by rw [vH, bu hi]; rfl) (by rw [vH, bu hix]; rfl) hn)
   simpa using this
  ·cases ht
end
def valOf : Ty → List Value → Value
 | .pair _ _, cs => .agg cs.toArray
 | .unit, cs => .agg cs.toArray
 | _, cs => cs.headD undef
abbrev Uq : List Ty → Type
 | [] => Unit
 | t :: ts => t.I × Uq ts
def pT (H : AH) : (ts : List Ty) → Uq ts → List Value → Prop
 | [], _, vs => vs = []
 | t :: ts, x, vs => ∃ cs rest, vs = valOf t cs :: rest ∧ Abs H t x.1 cs ∧ pT H ts x.2 rest
theorem pT.keep {H H' : AH} (k : d6 H H') : ∀ (ts : List Ty) (x : Uq ts) (vs : List Value), pT H ts x vs → pT H' ts x vs := by
 intro ts
 induction ts with
 | nil => intro x vs h; exact h
 | cons t ts ih =>
  intro x vs h;obtain ⟨cs, rest, e, h1, h2⟩ := h;exact ⟨cs, rest, e, Abs.keep k t _ _ h1, ih _ _ h2⟩
def u5 : (ts : List Ty) → Uq ts → Prop
 | [], _ => True
 | t :: ts, x => zw t x.1 ∧ u5 ts x.2
def p8 (P : Program) : List Ty → List TypeId → Bool
 | [], [] => true
 | ty :: tys, t :: ts => (oa P ty).1 t && P.readableRec t && decide (t < P.types.size) && p8 P tys ts
 | _, _ => false
section
variable {Hd : Type} {enc : TypeId × Value → Hd} {P : Program} {w : World} {held : Bool}
theorem Zx {ty : Ty} {t : TypeId} (ht : (oa P ty).1 t = true) {v : Value} {d : DataW Hd} {ps : List MemPlace} {r : Reach} {b0 : Nat} (hval : Value.okWide P w r b0 t v) (h : DataW.Trod enc P w 0 (fun _ => true) held t v d ps) (hwd : wOK P t d)
 {ρ : bg} {H : AH} (hR : Rel P w w.heap.size ρ H w) : ∃ ρ' H' x avs, Rel P w w.heap.size ρ' H' w ∧ (∀ b y, ρ b = some y → ρ' b = some y) ∧ d6 H H' ∧ VRel P ρ' (valOf ty avs) v ∧ Abs H' ty x avs ∧ zw ty x := by
 obtain ⟨fuel, h⟩ := h;obtain ⟨ρ', H', x, avs, h1, h2, h3, h4, h5, h6⟩ := (YN (enc := enc) (P := P) (w := w) (held := held) ty).1 t ht fuel _ _ ρ H hR h hwd;refine ⟨ρ', H', x, avs, h1, h2, h3, ?_, h5, h6⟩;have hlen := Abs.length ty x avs h5
 have one : ∀ (hw : ty.w = 1) (hva : ∀ cs, v ≠ .agg cs), VRel P ρ' (avs.headD undef) v := by
  intro hw hva
  have hc : v.cells.toList = [v] := by
   cases v <;> first | rfl | exact absurd rfl (hva _)
  rw [hc] at h4
  match avs, hlen with
  | [a], _ => exact h4.2 0 a v rfl rfl
  | [], hl => rw [hw] at hl; cases hl
  | a :: b :: l, hl => rw [hw] at hl; simp at hl
 cases ty with
 | int k =>
  refine one rfl (fun cs e => ?_);subst e;simp only [oa] at ht
  split at ht
  ·rename_i hu
   unfold Value.okWide at hval;rw [hu] at hval;unfold Cell.okWide at hval;rw [hu] at hval;unfold Cell.ok at hval;rw [hu] at hval;exact hval
  ·cases ht
 | bool =>
  refine one rfl (fun cs e => ?_);subst e;simp only [oa] at ht
  split at ht
  ·rename_i hu
   unfold Value.okWide at hval;rw [hu] at hval;unfold Cell.okWide at hval;rw [hu] at hval;unfold Cell.ok at hval;rw [hu] at hval;exact hval
  ·cases ht
 | slice e =>
  refine one rfl (fun cs e => ?_);subst e;simp only [oa] at ht
  split at ht
  ·rename_i hu
   unfold Value.okWide at hval;rw [hu] at hval;unfold Cell.okWide at hval;rw [hu] at hval;unfold Cell.ok at hval;rw [hu] at hval;exact hval
  ·cases ht
 | unit => simp only [oa] at ht; cases ht
 | pair a b =>
  simp only [oa] at ht
  split at ht
  ·rename_i fs hu
   unfold Value.okWide at hval;rw [hu] at hval;obtain ⟨cs, rfl, _⟩ := hval;have h4 : LRel P ρ' avs cs.toList := h4;exact .agg (by simpa using h4.1) (fun i x y hx hy => h4.2 i x y (by simpa using hx) (by simpa using hy))
  ·cases ht
theorem UH : ∀ (tys : List Ty) (ts : List TypeId) (vs : List Value) (ds : List (DataW Hd)) (ps : List MemPlace), p8 P tys ts = true → (∀ (j : Nat) t v, ts[j]? = some t → vs[j]? = some v → ∃ r b0, Value.okWide P w r b0 t v) →
 DataW.TrodAll enc P w 0 (fun _ => true) held ts vs ds ps → (∀ n ∈ DataW.weightsEach P ts ds, n ≤ reachBytes) → ∀ (ρ : bg) (H : AH), Rel P w w.heap.size ρ H w →
 ∃ ρ' H' x avs, Rel P w w.heap.size ρ' H' w ∧ (∀ b y, ρ b = some y → ρ' b = some y) ∧ d6 H H' ∧ LRel P ρ' avs vs ∧ pT H' tys x avs ∧ u5 tys x := by
 intro tys
 induction tys with
 | nil =>
  intro ts vs ds ps hc hval h hwd ρ H hR
  cases ts with
  | cons t ts => cases hc
  | nil =>
   obtain ⟨rfl, _, _⟩ := trodAll_nil h;exact ⟨ρ, H, (), [], hR, fun _ _ h => h, d6.refl H, LRel.nil, rfl, trivial⟩
 | cons ty tys ih =>
  intro ts vs ds ps hc hval h hwd ρ H hR
  cases ts with
  | nil => cases hc
  | cons t ts =>
   simp only [p8, Bool.and_eq_true] at hc;obtain ⟨⟨⟨hc1, _⟩, _⟩, hc2⟩ := hc;obtain ⟨v, vs', d, ds', p, q, rfl, rfl, rfl, hd, hrest⟩ := trodAll_cons h;obtain ⟨r, b0, hv0⟩ := hval 0 t v rfl rfl;obtain ⟨ρ1, H1, x1, a1, hR1, hle1, hk1, hv1, ha1, hs1⟩ := Zx hc1 hv0 hd (fun n hn => hwd n (by rw [DataW.weightsEach]; exact List.mem_append_left _ hn)) hR;obtain ⟨ρ2, H2, x2, a2, hR2, hle2, hk2, hl2, ha2, hs2⟩ := ih ts vs' ds' q hc2 (fun j t v h1 h2 => hval (j + 1) t v (by simpa using h1) (by simpa using h2)) hrest (fun n hn => hwd n (by rw [DataW.weightsEach]; exact List.mem_append_right _ hn)) ρ1 H1 hR1;exact ⟨ρ2, H2, (x1, x2), valOf ty a1 :: a2, hR2, fun b y h => hle2 b y (hle1 b y h), hk1.trans hk2, LRel.cons (hv1.mono hle2) hl2, ⟨a1, a2, rfl, Abs.keep hk2 ty x1 a1 ha1, ha2⟩, hs1, hs2⟩
theorem Qx (hl : laidOutB P = true) {W' : World} (hb : Below w.heap.size w W') : ∀ (tys : List Ty) (ts : List TypeId) (vs : List Value) (ds : List (DataW Hd)) (ps : List MemPlace), p8 P tys ts = true → (∀ x ∈ ps, x.block < w.heap.size) →
 DataW.TrodAll enc P w 0 (fun _ => true) true ts vs ds ps → DataW.TrodAll enc P W' 0 (fun b => decide (b < w.heap.size)) true ts vs ds ps := by
 intro tys
 induction tys with
 | nil =>
  intro ts vs ds ps hc hlt h
  cases ts with
  | cons t ts => cases hc
  | nil =>
   obtain ⟨rfl, rfl, rfl⟩ := trodAll_nil h;exact trodAll_mk0
 | cons ty tys ih =>
  intro ts vs ds ps hc hlt h
  cases ts with
  | nil => cases hc
  | cons t ts =>
   simp only [p8, Bool.and_eq_true, decide_eq_true_eq] at hc;obtain ⟨⟨⟨_, hc1⟩, hc3⟩, hc2⟩ := hc;obtain ⟨v, vs', d, ds', p, q, rfl, rfl, rfl, hd, hrest⟩ := trodAll_cons h;exact ⟨p, q, Below.trod hl hc1 hc3 hd hb (fun x hx => hlt x (by simp [hx])), ih ts vs' ds' q hc2 (fun x hx => hlt x (by simp [hx])) hrest, rfl⟩
theorem law_post (hm : P.follows .mixedOrders = true) (hl : laidOutB P = true) {G : List Nat} {f : Nat} {fn : Func} {s : ChangeSpec} {tys : List Ty} (hc : p8 P tys fn.params.toList = true)
 {tb : TypeId} (hres : fn.resultTypes = #[tb]) (hb : P.underlying tb = some .bool) (hvars : s.vars = [])
 {args : Array Value} {ds gs : List (DataW Hd)} {before : List MemPlace} (hval : ∀ (j : Nat) t v, fn.params[j]? = some t → args[j]? = some v → ∃ r b0, Value.okWide P w r b0 t v)
 (hW : DataW.Whole enc P fn.params.toList s.vars false w args.toList ds gs before) (hspec : s.fn Hd (ds ++ gs) = { results := [.lit (.bool true)], args := ds })
 {ρ0 : bg} {H0 : AH} (hR : Rel P w w.heap.size ρ0 H0 w) (hG : GlobRel ρ0 G)
 (hwt : (DataW.weightsEach P fn.params.toList ds).all (· ≤ reachBytes) = true)
 (run : ∀ (x : Uq tys) (avs : List Value) (H : AH), d6 H0 H → pT H tys x avs → u5 tys x → ∃ H', aF P G f avs H = some (.bool true, H')) :
 Calls P f args w fun e w' => ∃ v, e = .returned v ∧ s.post enc P fn false true false false w args v w' := by
 have hW' := hW;obtain ⟨p, q, hA, hV, rfl, hfz, hnd⟩ := hW;rw [hvars] at hV;obtain ⟨rfl, rfl⟩ := trodVars_none hV;obtain ⟨ρ1, H1, x, avs, hR1, hle1, hk1, hl1, ha1, hs1⟩ := UH tys fn.params.toList args.toList ds p hc (fun j t v h1 h2 => hval j t v (by simpa using h1) (by simpa using h2)) hA (fun n hn => by simpa using List.all_eq_true.1 hwt n hn) ρ0 H0 hR;obtain ⟨H', hrun⟩ := run x avs H1 hk1 ha1 hs1;have hG1 : GlobRel ρ1 G := fun g hg => let ⟨sz, h⟩ := hG g hg; ⟨sz, hle1 _ _ h⟩;have hcall := ((aeW (P := P) (G := G) hm).1 f avs H1 _ H' hrun).2 w w.heap.size ρ1 w args.toList hR1 hG1 hl1;rw [show args.toList.toArray = args from by simp] at hcall;refine hcall.mono fun e w' ⟨v', ρ', he, hv, hext, hR'⟩ => ?_
 have hv : v' = .bool true := by
  cases hv with
  | lit h => rfl
 subst hv;subst he
 have hlt : ∀ y ∈ p, y.block < w.heap.size := fun y hy => by
  have := hW'.lt y (by simp [hy])
  simpa using this
 refine ⟨_, rfl, ds, [], p ++ [], [], p, [], hW', ?_, ?_, ?_, ?_, fun h => by cases h⟩
 ·rw [hspec, hres]
  exact ⟨[], [], shut_bool hb true, trodAll_mk0, rfl⟩
 ·rw [hspec]
  exact Qx hl hR'.below tys _ _ _ _ hc hlt hA
 ·rw [hvars, hspec]
  rfl
 ·exact hR'.below.frame _
end
theorem rel_none (P : Program) (w : World) : Rel P w w.heap.size (fun _ => none) ⟨[]⟩ w where
 base := bm _
 below := Below.refl _ _
 dom := fun b x h => by cases h
 blk := fun b c d sz h => by cases h
 obj := fun b c d sz o h => by cases h
 own := fun b c d sz o h => by cases h
 ro := fun b c d sz cs h => by cases h
 inj := fun b b' c d d' sz sz' o o' h => by cases h
end Go.Proofs.YtghoamdlcjdfjaaGreatDoor.Gst
namespace Go.Proofs.YtghoamdlcjdfjaaGreatDoor.Gst
open Go Go.RowKit
set_option maxRecDepth 100000
set_option linter.unusedVariables false
set_option maxHeartbeats 1000000
abbrev Qz : Nat := 65185151242703554760590262029100101153646988597309960020356494379340201592426774597868716015
abbrev agM : Nat := 12554203470773361527671578846415332832204710888928068895681
abbrev agN : Nat := 12554203470773361527671578846415332832204710888928064803837
abbrev agO : Nat := 12554203470773361527671578846415332832204710888928069022719
abbrev Ey : Nat := 1237940039285380274899122808
abbrev agP : Nat := 12554203470773361527671578846415332832204710888928068998141
abbrev agQ : Nat := 12554203470773361527671578846415332832204710888928068764609
abbrev Ct : Nat := 590295810358705651256
abbrev Cu : Nat := 590295810358705650744
abbrev JW : Nat := 1237940039285380274899123320
abbrev zH : Nat := 309485009821345068724780233
abbrev ab7 : Nat := 65185151242703554760590262029100101153646988597309960020356494379340201592426774597868715788
abbrev wT : Nat := 1180591620717411303394
abbrev sS : Nat := 36028797018963852
abbrev zI : Nat := 590295810358705649720
abbrev M3 : Nat := 664613997892457936451903530140172271
abbrev HD : Nat := 1237940039285380274899123832
abbrev qU : Nat := 17592186044290
abbrev M4 : Nat := 72057594037927887
abbrev agK : Nat := 72057594037927820
abbrev M5 : Nat := 40564819207303340847894502572015
abbrev zJ : Nat := 1125899906842566
abbrev M6 : Nat := 309485009821345068724780751
abbrev wU : Nat := 4398046511091
abbrev zK : Nat := 17592186044162
abbrev zL : Nat := 4397241204723
abbrev zM : Nat := 1099511627762
abbrev zN : Nat := 1099511627724
abbrev M7 : Nat := 1180591620717411303411
abbrev M8 : Nat := 590295810358705651519
abbrev sT : Nat := 536870861
abbrev M9 : Nat := 36893488147419103219
abbrev HE : Nat := 1125899906842598
abbrev zO : Nat := 1073692589
abbrev zP : Nat := 1073741708
abbrev HF : Nat := 17592186044387
abbrev Na : Nat := 36028797018963919
abbrev UM : Nat := 1180591620717411303362
abbrev HG : Nat := 4398046511090
abbrev HH : Nat := 1099511627771
abbrev HI : Nat := 1099511627759
abbrev Nb : Nat := 2251799813685196
noncomputable abbrev PP : Program := Tryz.prog
def GG : List Nat := [0]
noncomputable abbrev FF : a7 := aF PP GG
noncomputable abbrev CQ (c : Code) (kn : KK) (kx : KX) (kr : KK) : KK := CK PP GG FF c kn kx kr
noncomputable abbrev xD (c : Code) (kx : KX) (kr : KK) : KK := CL PP GG FF c kx kr
def gT : Nat := 7
def rY : Nat := 10
def lU : Nat := 12
def rX : Nat := 16
def a9 : Nat := 18
def lV : Nat := 19
def gm : Nat := 20
def fL : Nat := 21
def gW : Nat := 22
def gj : Nat := 23
def o9 : Nat := 25
def pe : Nat := 26
def Pq : Nat := 30
def pi : Nat := 31
def fm : Nat := 32
def Pp : Nat := 33
def jG : Nat := 34
def fv : Nat := 40
def pc : Nat := 44
def kI : Nat := 45
def kC : Nat := 46
def dW : Nat := 49
def cD : Nat := 56
def jH : Nat := 57
def dX : Nat := 58
def kD : Nat := 59
def iC : Nat := 60
def vN : Nat := 61
def lZ : Nat := 62
def vM : Nat := 63
def dj : Nat := 64
def rZ : Nat := 65
def fV : Nat := 66
def nr : Nat := 68
def kF : Nat := 69
def vP : Nat := 70
def XE : Nat := 71
def yd : Nat := 72
def aY : Nat := 73
def cW : Nat := 75
def pd : Nat := 79
def cu : Nat := 80
def lT : Nat := 81
def vO : Nat := 82
def o8 : Nat := 83
def pk : Nat := 84
def r4 : Nat := 85
def rV : Nat := 86
def kH : Nat := 87
def kJ : Nat := 88
def lX : Nat := 89
def lW : Nat := 90
def gh : Nat := 91
def iF : Nat := 92
def g6 : Nat := 93
def ju : Nat := 94
def o7 : Nat := 98
def lS : Nat := 99
def cE : Nat := 104
def dI : Nat := 105
def fK : Nat := 106
def gZ : Nat := 107
def kB : Nat := 108
def eI : Nat := 109
def ch : Nat := 110
def Pr : Nat := 111
def iG : Nat := 112
def gk : Nat := 113
def jq : Nat := 114
def f6 : Nat := 115
def bx : Nat := 116
def f4 : Nat := 117
def e6 : Nat := 118
def f3 : Nat := 119
def iI : Nat := 120
def kK : Nat := 121
def dL : Nat := 122
def f5 : Nat := 123
def gY : Nat := 124
def acK : Nat := 125
def XC : Nat := 126
def bN : Nat := 130
def jr : Nat := 132
def gX : Nat := 133
def vQ : Nat := 134
def lr : Nat := 135
def nt : Nat := 136
def r6 : Nat := 137
def fp : Nat := 138
def ph : Nat := 139
def gU : Nat := 145
def XD : Nat := 148
def dK : Nat := 149
def pf : Nat := 150
def r5 : Nat := 151
def tW : Nat := 152
def tV : Nat := 153
def XA : Nat := 154
def eg : Nat := 155
def r7 : Nat := 156
def bB : Nat := 157
def lY : Nat := 158
def db : Nat := 159
def ei : Nat := 160
def gz : Nat := 167
def iA : Nat := 168
def XB : Nat := 169
def iH : Nat := 170
def e7 : Nat := 171
def jt : Nat := 172
def cV : Nat := 173
def dc : Nat := 174
def iR : Nat := 175
def f2 : Nat := 176
def f0 : Nat := 177
def jp : Nat := 178
def iD : Nat := 179
def iE : Nat := 180
def fU : Nat := 181
def Ba : Nat := 182
def iJ : Nat := 183
def nq : Nat := 185
def r8 : Nat := 190
def pj : Nat := 191
def pg : Nat := 200
def jV : Nat := 207
def jS : Nat := 208
def tT : Nat := 209
def a8 : Nat := 210
def fj : Nat := 211
def cr : Nat := 212
def kG : Nat := 213
def dJ : Nat := 214
def fw : Nat := 215
def pp : Nat := 216
def dk : Nat := 217
def kE : Nat := 218
def pn : Nat := 220
def rW : Nat := 221
def gl : Nat := 237
def gi : Nat := 242
def fM : Nat := 243
def bA : Nat := 244
def dh : Nat := 245
def g7 : Nat := 246
def nu : Nat := 248
def iS : Nat := 277
def jT : Nat := 282
def di : Nat := 283
def e8 : Nat := 302
def ft : Nat := 305
def fq : Nat := 306
def mL : Nat := 307
def iz : Nat := 308
def iy : Nat := 309
def eH : Nat := 316
def dH : Nat := 318
def eJ : Nat := 319
def mK : Nat := 320
def fJ : Nat := 321
def jY : Nat := 322
def dG : Nat := 324
def lu : Nat := 325
def tU : Nat := 326
def jX : Nat := 327
def jQ : Nat := 328
def jR : Nat := 329
def en : Nat := 330
def jv : Nat := 331
def fu : Nat := 332
def eG : Nat := 333
def iB : Nat := 334
def cN : Nat := 335
def gS : Nat := 336
def jU : Nat := 337
def gf : Nat := 338
def jW : Nat := 339
def gg : Nat := 340
def mJ : Nat := 341
section
variable (x0 x1 x2 x3 x4 x5 x8 x9 x15 x35 x48 x51 : Value) (H : AH)
noncomputable def qX (p : List Nat) : Code := Code.sub (bw Tryz.f10) p
noncomputable def oD : KK := dV PP (Tryz.f10).results.toList
noncomputable def Vg : KK := CQ (qX [1, 1, 1, 1, 1]) oD bv oD
noncomputable def w7 : OV := Vg (ls [u, x1, x2, u, x4, x5, u, u, x8] 79) H
noncomputable def Kq : KK := CQ (qX [1, 1, 1, 1, 1, 1]) oD bv oD
noncomputable def Ve : KK := dT M6 Kq
noncomputable def w8 : OV := Kq (ls [u, u, u, u, x4, x5, u, u, x8] 79) H
noncomputable def Vi : KK := CQ (qX [1, 1, 1, 1, 1, 0, 1]) Ve bv oD
noncomputable def w9 : OV := Vi (ls [u, x1, x2, u, x4, x5, u, u, x8, x9] 78) H
noncomputable def Kt : KX := BX 0 Ve bv
noncomputable def ES : KX := ou M6 Kt
noncomputable def Kr : KK := xD (qX [1, 1, 1, 1, 1, 0, 1, 4, 5]) ES oD
noncomputable def Vf : KK := dT zH Kr
noncomputable def lq : OV := Kr (ls [u, x1, x2, u, x4, x5, u, u, x8, x9] 78) H
noncomputable def Vk : KK := CQ (qX [1, 1, 1, 1, 1, 0, 1, 4, 5, 1]) Vf ES oD
noncomputable def xa : OV := Vk (ls [u, x1, x2, u, x4, x5, u, u, x8, x9] 78) H
noncomputable def Ks : KK := CQ (qX [1, 1, 1, 1, 1, 0, 1, 4, 5, 1, 1]) Vf ES oD
noncomputable def adH : KK := dT zH Ks
noncomputable def o5 : OV := Ks (ls [u, x1, x2, u, x4, x5, u, u, x8, x9] 78) H
noncomputable def ZL : KX := BX 1 adH ES
noncomputable def q7 : OV := Kt 0 (ls [u, u, u, u, x4, x5, u, u, x8] 79) H
theorem lc : aq 309485009821345068724781007 oD := rf
theorem Vh : aq 309485009821345068724780745 Vg := rc lc aA lc
theorem z9 : aq M6 Kq := rc lc aA lc
theorem Vj : aq zH Vi := rc (cd z9) aA lc
theorem oE : ∀ i, aq M6 (Kt i) := rb (cd z9) aA
theorem ta : aq zH Kr := rl (cx oE) lc
theorem Vl : aq zH Vk := rc (cd ta) (cx oE) lc
theorem Ie : aq zH Ks := rc (cd ta) (cx oE) lc
theorem QV : ∀ i, aq zH (ZL i) := rb (cd Ie) (cx oE)
theorem AQ : w8 x4 x5 x8 H =
 (ax 2 x8 H).bind fun b =>
 (cZ 2 x4 b H).bind fun a =>
 (ax 2 x4 a).bind fun c => some (Value.tuple #[c, (vb true)], a) :=
 (by kernel_rfl)
theorem AU : o5 x1 x2 x4 x5 x8 x9 H =
 (aj .other .add x9 (vi 1)).bind fun a =>
 lq x1 x2 x4 x5 x8 a H :=
 (by kernel_rfl)
theorem AT : xa x1 x2 x4 x5 x8 x9 H =
 ld [.f 0] x2 H fun d =>
 (aj .other .quo x9 d).bind fun e =>
 ld [.f 1] x2 H fun g =>
 (aj .other .lss e g).bind fun a =>
 (gB a true (ax 2 x8 H)).bind fun i =>
 (gV a true x9).bind fun j =>
 (gV a true x9).bind fun k =>
 (gB a true (aj .other .add (vi 1) k)).bind fun l =>
 (gV a true x9).bind fun m =>
 (gB a true (aj .other .rem m (vi 2))).bind fun n =>
 (gB a true (aj .other .add (vi 2) n)).bind fun o =>
 (gE a true H (FF kC [i, j, l, o] H)).bind fun b =>
 (gB a true (pr .not b.1)).bind fun p =>
 (aH a p (vb false)).bind fun q =>
 au q
 (gR [(0, 1), (1, 1)] [(.pointer none), (.pointer none)] [] fun s =>
 (cZ 2 x4 s b.2).bind fun c =>
 (ax 2 x4 c).bind fun t => some (Value.tuple #[t, (vb false)], c))
 (o5 x1 x2 x4 x5 x8 x9 b.2) :=
 (pt rfl 0 Ie (bt rfl (qX [1, 1, 1, 1, 1, 0, 1, 4, 5, 1, 0, 4]) 1 QV (by kernel_rfl)))
theorem vB : q7 x4 x5 x8 H = w8 x4 x5 x8 H :=
 (by kernel_rfl)
theorem oZ : lq x1 x2 x4 x5 x8 x9 H =
 (aj .other .lss x9 x1).bind fun a =>
 au a
 (xa x1 x2 x4 x5 x8 x9 H)
 (q7 x4 x5 x8 H) :=
 xS rfl ta (pt rfl 0 Vl (by kernel_rfl))
theorem AS : w9 x1 x2 x4 x5 x8 x9 H =
 lq x1 x2 x4 x5 x8 x9 H :=
 (bt rfl (qX [1, 1, 1, 1, 1, 0, 1, 4]) 0 oE (li rfl (qX [1, 1, 1, 1, 1, 0, 1, 4, 5]) ta (by kernel_rfl)))
theorem AP : w7 x1 x2 x4 x5 x8 H =
 w9 x1 x2 x4 x5 x8 (vi 0) H :=
 (pt rfl 0 z9 (pt rfl 0 Vj (by kernel_rfl)))
noncomputable def Xd : OV := aQ PP GG FF (qX []) (ls [x0, x1] 86) H oD bv oD
theorem IA {r : Value × AH} (h : (
 aS (Value.cells x0).toList H fun c y =>
 aS [(.pointer none), (.pointer none)] y fun k m =>
 (ax 5 c m).bind fun z =>
 (FF lU [z] m).bind fun o =>
 (cZ 5 c o.1 o.2).bind fun p =>
 (ax 5 c p).bind fun A =>
 (FF pc [A] p).bind fun a =>
 (ah a.1 0).bind fun b =>
 (ah a.1 1).bind fun B =>
 (aj .other .neq B (vi 0)).bind fun l =>
 (gV l false b).bind fun C =>
 (gB l false (aj .ptr .eql C (.pointer none))).bind fun D =>
 (aH l (vb true) D).bind fun d =>
 (gV d false b).bind fun E =>
 ed d false  [.n, .f 0] E a.2 fun G =>
 (gB d false (aj .ptr .eql G (.pointer none))).bind fun I =>
 (aH d (vb true) I).bind fun e =>
 (gV e false b).bind fun J =>
 ed e false  [.n, .f 1] J a.2 fun K =>
 (gB e false (aj .ptr .eql K (.pointer none))).bind fun L =>
 (aH e (vb true) L).bind fun g =>
 (gV g false b).bind fun M =>
 ed g false  [.n, .f 2] M a.2 fun N =>
 (gB g false (aj .ptr .eql N (.pointer none))).bind fun O =>
 (aH g (vb true) O).bind fun i =>
 (gV i false b).bind fun P =>
 ed i false  [.n, .f 3] P a.2 fun Q =>
 (gB i false (aj .ptr .eql Q (.pointer none))).bind fun R =>
 (aH i (vb true) R).bind fun j =>
 (gV j false b).bind fun S =>
 ed j false  [.n, .f 4] S a.2 fun T =>
 (gB j false (aj .ptr .eql T (.pointer none))).bind fun U =>
 (aH j (vb true) U).bind fun V =>
 au V
 (gR [(0, 1), (1, 1)] [(.pointer none), (.pointer none)] [] fun W =>
 (cZ 2 k W a.2).bind fun q =>
 (ax 2 k q).bind fun X => some (Value.tuple #[X, (vb false)], q))
 ((ax 5 c a.2).bind fun Y =>
 (FF kI [Y] a.2).bind fun s =>
 gR [(0, 1), (1, 1)] [(.pointer none), (.pointer none)] [(0, b), (1, s.1)] fun Z =>
 aS [(.pointer none), (.pointer none)] s.2 fun w a0 =>
 (cZ 2 w Z a0).bind fun a1 =>
 w7 x1 c k (vb false) w a1)) = some r) : FF rY [x0, x1] H = some r :=
 fo (t := Xd x0 x1 H) Tryz.func10 (by kernel_rfl) (Eq.trans (pt rfl 4 Vh (by kernel_rfl)) h)
noncomputable def Vm (p : List Nat) : Code := Code.sub (bw Tryz.f12) p
noncomputable def Ac : KK := dV PP (Tryz.f12).results.toList
noncomputable def Vn : KK := CQ (Vm [1, 1]) Ac bv Ac
noncomputable def px : OV := Vn (ls [u, x1, x2, x3] 29) H
noncomputable def Vq : KK := CQ (Vm [1, 1, 1]) Ac bv Ac
noncomputable def hU : OV := Vq (ls [u, x1, x2, x3] 29) H
theorem yY : aq 8589934587 Ac := rf
theorem Vp : aq 8589934577 Vn := rc yY aA yY
theorem Vr : aq 8589934577 Vq := rc yY aA yY
theorem uc : hU x1 x2 x3 H =
 ld [.f 0] x1 H fun k =>
 (FF a9 [k, (vi 4)] H).bind fun b =>
 (aj .other .add (vi 1) b.1).bind fun l =>
 ad [.f 1] x1 fun g =>
 (ap g b.2).bind fun m =>
 bE (ap g H) (ap g b.2) <|
 (FF a9 [m, (vi 4)] b.2).bind fun c =>
 (aj .other .add (vi 1) c.1).bind fun n =>
 ad [.f 2] x1 fun e =>
 (ap e c.2).bind fun o =>
 bE (ap e H) (ap e c.2) <|
 bE (ap e b.2) (ap e c.2) <|
 (FF a9 [o, (vi 6)] c.2).bind fun d =>
 (aj .other .add (vi 1) d.1).bind fun p =>
 ad [.f 3] x1 fun a =>
 (ap a d.2).bind fun q =>
 bE (ap a H) (ap a d.2) <|
 bE (ap a b.2) (ap a d.2) <|
 bE (ap a c.2) (ap a d.2) <|
 (FF a9 [q, (vi 12)] d.2).bind fun i =>
 gR [(0, 1), (1, 1), (2, 1), (3, 1), (4, 1)] [(vi 0), (vi 0), (vi 0), (vi 0), (vw 0)] [(0, l), (1, n), (2, p), (3, i.1), (4, x3)] fun s =>
 (cZ 5 x2 s i.2).bind fun j =>
 (ax 5 x2 j).bind fun t => some (t, j) :=
 (by kernel_rfl)
theorem ub : px x1 x2 x3 H =
 ld [.f 4] x1 H fun a =>
 (aj .other .rem a (vw 4)).bind fun b =>
 (aj .other .eql b (vw 3)).bind fun c =>
 au c
 (ld [.f 4] x1 H fun d =>
 (aj .other .rem d (vw 4611686018427387904)).bind fun e =>
 (aj .other .add (vw 1) e).bind fun g =>
 hU x1 x2 g H)
 (hU x1 x2 x3 H) :=
 (pt rfl 0 Vr (by kernel_rfl))
noncomputable def IS : OV := aQ PP GG FF (Vm []) (ls [x0] 32) H Ac bv Ac
theorem Bf {r : Value × AH} (h : (
 aS (Value.cells x0).toList H fun a c =>
 aS [(vi 0), (vi 0), (vi 0), (vi 0), (vw 0)] c fun d b =>
 ld [.f 4] a b fun e =>
 (aj .other .rem e (vw 5000)).bind fun g =>
 (aj .other .add (vw 1) g).bind fun i =>
 px a d i b) = some r) : FF lU [x0] H = some r :=
 fo (t := IS x0 H) Tryz.func12 (by kernel_rfl) (Eq.trans (pt rfl 1 Vp (by kernel_rfl)) h)
theorem Ix {r : Value × AH} (h : (
 aS (Value.cells x0).toList H fun b j =>
 aS (Value.cells x1).toList j fun c a =>
 ld [.f 0] b a fun k =>
 ld [.f 0] c a fun l =>
 (aj .other .eql k l).bind fun d =>
 ed d true  [.f 2] b a fun m =>
 ed d true  [.f 2] c a fun n =>
 (gB d true (aj .other .eql m n)).bind fun o =>
 (aH d o (vb false)).bind fun e =>
 ed e true  [.f 3] b a fun p =>
 ed e true  [.f 3] c a fun q =>
 (gB e true (aj .other .eql p q)).bind fun s =>
 (aH e s (vb false)).bind fun g =>
 ed g true  [.f 1] b a fun t =>
 ed g true  [.f 1] c a fun w =>
 (gE g true a (FF dW [t, w] a)).bind fun i =>
 (aH g i.1 (vb false)).bind fun y =>
 some (y, i.2)) = some r) : FF rX [x0, x1] H = some r :=
 fo Tryz.func16 (by kernel_rfl) h
theorem IT {r : Value × AH} (h : (
 (bV (some .u64) x0).bind fun a =>
 (bV (some .u64) x1).bind fun b =>
 (aj .other .rem a b).bind fun c =>
 (bV (some .i64) c).bind fun d =>
 some (d, H)) = some r) : FF a9 [x0, x1] H = some r :=
 fo Tryz.func18 (by kernel_rfl) h
theorem Bg {r : Value × AH} (h : (
 (aj .other .lss x0 (vw 1)).bind fun a =>
 (gV a false x0).bind fun d =>
 (gB a false (aj .other .gtr d (vw 4611686018427387904))).bind fun e =>
 (aH a (vb true) e).bind fun b =>
 (gV b false x1).bind fun f =>
 (gB b false (aj .other .lss f (vi 1))).bind fun g =>
 (aH b (vb true) g).bind fun c =>
 (gV c false x1).bind fun i =>
 (gB c false (aj .other .gtr i (vi 65536))).bind fun j =>
 (aH c (vb true) j).bind fun k =>
 au k
 (some (Value.tuple #[(vw 0), (vb false)], H))
 ((bV (some .u64) x1).bind fun l =>
 (aj .other .quo x0 l).bind fun m =>
 (eN [m, (vw 1)]).bind fun n =>
 some (Value.tuple #[n, (vb true)], H))) = some r) : FF lV [x0, x1] H = some r :=
 fo Tryz.func19 (by kernel_rfl) h
theorem qS {r : Value × AH} (h : (
 ad [.n, .f 0] x0 fun b =>
 (ap b H).bind fun d =>
 (FF jH [x2, x3] H).bind fun c =>
 bE (ap b c.2) (ap b H) <|
 (FF cD [d, x1, c.1] c.2).bind fun a =>
 (aj .other .eql a.1 (vw 0)).bind fun e =>
 au e
 (some (Value.tuple #[(vi 0), (vi 0), (vb false)], a.2))
 ((aj .other .shr a.1 (vw 32)).bind fun g =>
 (bV (some .i64) g).bind fun i =>
 (aj .other .sub i (vi 1)).bind fun j =>
 (aj .other .and a.1 (vw 4294967295)).bind fun k =>
 (bV (some .i64) k).bind fun l =>
 some (Value.tuple #[j, l, (vb true)], a.2))) = some r) : FF gm [x0, x1, x2, x3] H = some r :=
 fo Tryz.func20 (by kernel_rfl) h
theorem pL {r : Value × AH} (h : (
 ld [.n, .f 1] x0 H fun a =>
 (aj .other .rem x1 a).bind fun b =>
 ld [.n, .f 1] x0 H fun c =>
 (aj .other .add b c).bind fun d =>
 ld [.n, .f 1] x0 H fun e =>
 (aj .other .rem d e).bind fun g =>
 some (g, H)) = some r) : FF fL [x0, x1] H = some r :=
 fo Tryz.func21 (by kernel_rfl) h
theorem sf {r : Value × AH} (h : (
 aS [(vi 0), (vi 0), (vw 0)] H fun a g =>
 (FF dX [x0, x2] g).bind fun b =>
 (pr .not b.1).bind fun j =>
 au j
 (gR [(0, 1), (1, 1), (2, 1)] [(vi 0), (vi 0), (vw 0)] [] fun k =>
 (cZ 3 a k b.2).bind fun d =>
 (ax 3 a d).bind fun l => some (l, d))
 (ld [.n, .f 0] x0 b.2 fun m =>
 gR [(0, 1), (1, 1), (2, 1)] [(vi 0), (vi 0), (vi 0)] [(0, (vi 13)), (1, x2)] fun o =>
 (FF kD [m, x1, o] b.2).bind fun c =>
 ld [.n, .f 10] x0 c.2 fun p =>
 ldN 3 [.i 4 x2, .f 0] p c.2 fun q =>
 (cZ 3 a q c.2).bind fun e =>
 (ax 3 a e).bind fun s => some (s, e))) = some r) : FF gW [x0, x1, x2] H = some r :=
 fo Tryz.func22 (by kernel_rfl) h
theorem qO {r : Value × AH} (h : (
 (FF dX [x0, x1] H).bind fun a =>
 (pr .not a.1).bind fun b =>
 au b
 (some ((.pointer none), a.2))
 (ld [.n, .f 10] x0 a.2 fun c =>
 ld [.i 4 x1, .f 3] c a.2 fun d =>
 some (d, a.2))) = some r) : FF gj [x0, x1] H = some r :=
 fo Tryz.func23 (by kernel_rfl) h
noncomputable def nR (p : List Nat) : Code := Code.sub (bw Tryz.f26) p
noncomputable def oM : KK := dV PP (Tryz.f26).results.toList
noncomputable def Vy : KK := CQ (nR [1, 1, 1]) oM bv oM
noncomputable def t8 : OV := Vy (ls [u, x1, x2, x3] 61) H
noncomputable def KG : KK := CQ (nR [1, 1, 1, 1]) oM bv oM
noncomputable def As : KK := dT M9 KG
noncomputable def cB : OV := KG (ls [u, u, x2, x3] 61) H
noncomputable def VA : KK := CQ (nR [1, 1, 1, 0, 1]) As bv oM
noncomputable def t9 : OV := VA (ls [u, x1, x2, x3, u, u, u, u, u, u, u, u, u, u, u, x15] 49) H
noncomputable def VE : KX := BX 0 As bv
noncomputable def KH : KX := ou M9 VE
noncomputable def VC : KK := CQ (nR [1, 1, 1, 0, 1, 4, 1]) As KH oM
noncomputable def ua : OV := VC (ls [u, x1, x2, x3, u, u, u, u, u, u, u, u, u, u, u, x15, u, u, u, u, u, u, u, u, u, u, u, u, u, u, u, u, u, u, u, x35] 29) H
noncomputable def OA : KK := CQ (nR [1, 1, 1, 0, 1, 4, 1, 3, 1]) As KH oM
noncomputable def rk : OV := OA (ls [u, x1, x2, x3, u, u, u, u, u, u, u, u, u, u, u, x15, u, u, u, u, u, u, u, u, u, u, u, u, u, u, u, u, u, u, u, u, u, u, u, u, u, u, u, u, u, u, u, u, x48] 16) H
noncomputable def OB : KK := CQ (nR [1, 1, 1, 0, 1, 4, 1, 3, 1, 3, 1]) As KH oM
noncomputable def iT : OV := OB (ls [u, x1, x2, x3, u, u, u, u, u, u, u, u, u, u, u, x15, u, u, u, u, u, u, u, u, u, u, u, u, u, u, u, u, u, u, u, u, u, u, u, u, u, u, u, u, u, u, u, u, u, u, u, x51] 13) H
theorem lg : aq 36893488147419103227 oM := rf
theorem Vz : aq 36893488147419103217 Vy := rc lg aA lg
theorem mt : aq M9 KG := rc lg aA lg
theorem VB : aq 36893488147419070449 VA := rc (cd mt) aA lg
theorem tj : ∀ i, aq M9 (VE i) := rb (cd mt) aA
theorem VD : aq 36893488113059332081 VC := rc (cd mt) (cx tj) lg
theorem RY : aq 36893206672442359793 OA := rc (cd mt) (cx tj) lg
theorem RZ : aq 36891236347605385201 OB := rc (cd mt) (cx tj) lg
theorem yg : cB x2 x3 H =
 (ax 4 x3 H).bind fun b =>
 (cZ 4 x2 b H).bind fun a =>
 (ax 4 x2 a).bind fun c => some (c, a) :=
 (by kernel_rfl)
theorem vU : iT x1 x2 x3 x15 x51 H =
 au x51
 (gR [(0, 1), (1, 1), (2, 1), (3, 1)] [(vi 0), (vi 0), (vi 0), (vi 0)] [(0, (vi 4))] fun j =>
 (cZ 4 x3 j H).bind fun k =>
 cB x2 x3 k)
 ((aj .other .eql x15 (vi 8)).bind fun l =>
 au l
 (ld [.f 2] x1 H fun m =>
 (FF a9 [m, (vi 6)] H).bind fun d =>
 gR [(0, 1), (1, 1), (2, 1), (3, 1)] [(vi 0), (vi 0), (vi 0), (vi 0)] [(0, (vi 5)), (2, d.1)] fun n =>
 (cZ 4 x3 n d.2).bind fun o =>
 cB x2 x3 o)
 ((aj .other .eql x15 (vi 9)).bind fun p =>
 au p
 (gR [(0, 1), (1, 1), (2, 1), (3, 1)] [(vi 0), (vi 0), (vi 0), (vi 0)] [(0, (vi 6))] fun q =>
 (cZ 4 x3 q H).bind fun s =>
 cB x2 x3 s)
 (ld [.f 2] x1 H fun t =>
 (FF a9 [t, (vi 9)] H).bind fun a =>
 (aj .other .add (vi 1) a.1).bind fun w =>
 ad [.f 3] x1 fun c =>
 (ap c a.2).bind fun y =>
 bE (ap c H) (ap c a.2) <|
 (FF a9 [y, (vi 1000)] a.2).bind fun e =>
 st 1 [.f 0] x3 (vi 3) e.2 fun z =>
 st 1 [.f 2] x3 w z fun A =>
 st 1 [.f 3] x3 e.1 A fun g =>
 ld [.f 2] x1 g fun B =>
 (FF a9 [B, (vi 13)] g).bind fun b =>
 (aj .other .eql b.1 (vi 12)).bind fun C =>
 au C
 (ld [.f 2] x1 b.2 fun D =>
 (FF a9 [D, (vi 65536)] b.2).bind fun i =>
 (aj .other .add (vi 1) i.1).bind fun E =>
 st 1 [.f 2] x3 E i.2 fun G =>
 cB x2 x3 G)
 (cB x2 x3 b.2)))) :=
 (by kernel_rfl)
theorem vT : rk x1 x2 x3 x15 x48 H =
 au x48
 (st 1 [.f 0] x3 (vi 2) H fun b =>
 cB x2 x3 b)
 ((aj .other .eql x15 (vi 6)).bind fun a =>
 au a
 (iT x1 x2 x3 x15 a H)
 ((aj .other .eql x15 (vi 7)).bind fun c =>
 iT x1 x2 x3 x15 c H)) :=
 (ct rfl (nR [1, 1, 1, 0, 1, 4, 1, 3, 1, 2]) (nR [1, 1, 1, 0, 1, 4, 1, 3, 1, 3]) (.tmp 48) (by kernel_rfl) (pt rfl 0 RZ (by kernel_rfl)))
theorem yi : ua x1 x2 x3 x15 x35 H =
 au x35
 (ld [.f 2] x1 H fun d =>
 (FF a9 [d, (vi 5)] H).bind fun a =>
 (aj .other .add (vi 1) a.1).bind fun e =>
 ad [.f 3] x1 fun b =>
 (ap b a.2).bind fun g =>
 bE (ap b H) (ap b a.2) <|
 (FF a9 [g, (vi 3)] a.2).bind fun c =>
 (aj .other .add (vi 1) c.1).bind fun i =>
 st 1 [.f 0] x3 (vi 1) c.2 fun j =>
 st 1 [.f 2] x3 e j fun k =>
 st 1 [.f 3] x3 i k fun l =>
 cB x2 x3 l)
 ((aj .other .eql x15 (vi 1)).bind fun m =>
 rk x1 x2 x3 x15 m H) :=
 (ct rfl (nR [1, 1, 1, 0, 1, 4, 1, 2]) (nR [1, 1, 1, 0, 1, 4, 1, 3]) (.tmp 35) (by kernel_rfl) (pt rfl 0 RY (by kernel_rfl)))
theorem yh : t9 x1 x2 x3 x15 H =
 (aj .other .eql x15 (vi 0)).bind fun a =>
 ua x1 x2 x3 x15 a H :=
 (bt rfl (nR [1, 1, 1, 0, 1, 4]) 0 tj (pt rfl 0 VD (by kernel_rfl)))
theorem yf : t8 x1 x2 x3 H =
 ld [.f 0] x1 H fun b =>
 (FF a9 [b, (vi 10)] H).bind fun a =>
 t9 x1 x2 x3 a.1 a.2 :=
 (pt rfl 0 mt (pt rfl 0 VB (by kernel_rfl)))
noncomputable def S9 : OV := aQ PP GG FF (nR []) (ls [x0] 64) H oM bv oM
theorem GJ {r : Value × AH} (h : (
 aS (Value.cells x0).toList H fun b j =>
 aS [(vi 0), (vi 0), (vi 0), (vi 0)] j fun c d =>
 ld [.f 1] b d fun k =>
 (FF a9 [k, (vi 23)] d).bind fun a =>
 (aj .other .eql a.1 (vi 22)).bind fun l =>
 au l
 ((ax 4 b a.2).bind fun m =>
 (cZ 4 c m a.2).bind fun e =>
 (ax 4 c e).bind fun n => some (n, e))
 (ld [.f 1] b a.2 fun o =>
 (FF a9 [o, (vi 5)] a.2).bind fun g =>
 gR [(0, 1), (1, 1), (2, 1), (3, 1)] [(vi 0), (vi 0), (vi 0), (vi 0)] [(1, g.1)] fun p =>
 aS [(vi 0), (vi 0), (vi 0), (vi 0)] g.2 fun i q =>
 (cZ 4 i p q).bind fun s =>
 t8 b c i s)) = some r) : FF pe [x0] H = some r :=
 fo (t := S9 x0 H) Tryz.func26 (by kernel_rfl) (Eq.trans (pt rfl 2 Vz (by kernel_rfl)) h)
end
section
variable (x0 x1 x2 x3 x6 x7 x8 x9 x10 : Value) (H : AH)
noncomputable def eD (p : List Nat) : Code := Code.sub (bw Tryz.f30) p
noncomputable def gL : KK := dV PP (Tryz.f30).results.toList
noncomputable def VH : KK := CQ (eD [1, 1]) gL bv gL
noncomputable def XP : OV := VH (ls [x0, x1, x2, u, u, u, x6, x7] 61) H
noncomputable def KJ : KK := CQ (eD [1, 1, 1]) gL bv gL
noncomputable def VF : KK := dT M8 KJ
noncomputable def XQ : OV := KJ (ls [u, u, u, u, u, u, x6, x7] 61) H
noncomputable def VJ : KK := CQ (eD [1, 1, 0, 1]) VF bv gL
noncomputable def XR : OV := VJ (ls [x0, x1, x2, u, u, u, x6, x7, x8] 60) H
noncomputable def KN : KX := BX 0 VF bv
noncomputable def FV : KX := ou M8 KN
noncomputable def KL : KK := xD (eD [1, 1, 0, 1, 4, 5]) FV gL
noncomputable def VG : KK := dT Ct KL
noncomputable def GB : OV := KL (ls [x0, x1, x2, u, u, u, x6, x7, x8] 60) H
noncomputable def VL : KK := CQ (eD [1, 1, 0, 1, 4, 5, 1]) VG FV gL
noncomputable def XS : OV := VL (ls [x0, x1, x2, u, u, u, x6, x7, x8] 60) H
noncomputable def KM : KK := CQ (eD [1, 1, 0, 1, 4, 5, 1, 1]) VG FV gL
noncomputable def KI : KK := dT Ct KM
noncomputable def LR : OV := KM (ls [x0, x1, x2, u, u, u, x6, x7, x8] 60) H
noncomputable def VP : KX := BX 1 KI FV
noncomputable def VQ : KX := ou Ct VP
noncomputable def VN : KK := CQ (eD [1, 1, 0, 1, 4, 5, 1, 0, 4, 1]) KI VQ gL
noncomputable def XT : OV := VN (ls [x0, x1, x2, u, u, u, x6, x7, x8, x9] 59) H
noncomputable def FT : KX := BX 2 KI VQ
noncomputable def za : KX := ou Ct FT
noncomputable def FP : KK := xD (eD [1, 1, 0, 1, 4, 5, 1, 0, 4, 1, 4, 5]) za gL
noncomputable def OD : KK := dT Cu FP
noncomputable def zj : OV := FP (ls [x0, x1, x2, u, u, u, x6, x7, x8, x9] 59) H
noncomputable def OF : KK := CQ (eD [1, 1, 0, 1, 4, 5, 1, 0, 4, 1, 4, 5, 1]) OD za gL
noncomputable def Pw : OV := OF (ls [x0, x1, x2, u, u, u, x6, x7, x8, x9] 59) H
noncomputable def FQ : KK := CQ (eD [1, 1, 0, 1, 4, 5, 1, 0, 4, 1, 4, 5, 1, 1]) OD za gL
noncomputable def FO : KK := dT Cu FQ
noncomputable def GA : OV := FQ (ls [x0, x1, x2, u, u, u, x6, x7, x8, x9] 59) H
noncomputable def OI : KX := BX 3 FO za
noncomputable def OJ : KX := ou Cu OI
noncomputable def OG : KK := CQ (eD [1, 1, 0, 1, 4, 5, 1, 0, 4, 1, 4, 5, 1, 0, 4, 1, 1]) FO OJ gL
noncomputable def Px : OV := OG (ls [x0, x1, x2, u, u, u, x6, x7, x8, x9, x10] 58) H
noncomputable def FU : KX := BX 4 FO OJ
noncomputable def zb : KX := ou Cu FU
noncomputable def FR : KK := xD (eD [1, 1, 0, 1, 4, 5, 1, 0, 4, 1, 4, 5, 1, 0, 4, 1, 1, 4, 5]) zb gL
noncomputable def OE : KK := dT zI FR
noncomputable def zk : OV := FR (ls [x0, x1, x2, u, u, u, x6, x7, x8, x9, x10] 58) H
noncomputable def OH : KK := CQ (eD [1, 1, 0, 1, 4, 5, 1, 0, 4, 1, 4, 5, 1, 0, 4, 1, 1, 4, 5, 1]) OE zb gL
noncomputable def Py : OV := OH (ls [x0, x1, x2, u, u, u, x6, x7, x8, x9, x10] 58) H
noncomputable def FS : KK := CQ (eD [1, 1, 0, 1, 4, 5, 1, 0, 4, 1, 4, 5, 1, 0, 4, 1, 1, 4, 5, 1, 1]) OE zb gL
noncomputable def aaH : KK := dT zI FS
noncomputable def Pz : OV := FS (ls [x0, x1, x2, u, u, u, x6, x7, x8, x9, x10] 58) H
noncomputable def aaI : KX := BX 5 aaH zb
noncomputable def qz : OV := FU 4 (ls [x0, x1, x2, u, u, u, x6, x7, x8, x9] 59) H
noncomputable def vS : OV := FT 2 (ls [x0, x1, x2, u, u, u, x6, x7, x8] 60) H
noncomputable def IN : OV := KN 0 (ls [u, u, u, u, u, u, x6, x7] 61) H
theorem dz : aq 590295810358705651647 gL := rf
theorem VI : aq 590295810358705651512 VH := rc dz aA dz
theorem At : aq M8 KJ := rc dz aA dz
theorem VK : aq Ct VJ := rc (cd At) aA dz
theorem oN : ∀ i, aq M8 (KN i) := rb (cd At) aA
theorem tm : aq Ct KL := rl (cx oN) dz
theorem VM : aq Ct VL := rc (cd tm) (cx oN) dz
theorem tn : aq Ct KM := rc (cd tm) (cx oN) dz
theorem Au : ∀ i, aq Ct (VP i) := rb (cd tn) (cx oN)
theorem VO : aq Cu VN := rc (cd tn) (cx Au) dz
theorem mu : ∀ i, aq Ct (FT i) := rb (cd tn) (cx Au)
theorem qn : aq Cu FP := rl (cx mu) dz
theorem R5 : aq Cu OF := rc (cd qn) (cx mu) dz
theorem qo : aq Cu FQ := rc (cd qn) (cx mu) dz
theorem vy : ∀ i, aq Cu (OI i) := rb (cd qo) (cx mu)
theorem R6 : aq zI OG := rc (cd qo) (cx vy) dz
theorem mv : ∀ i, aq Cu (FU i) := rb (cd qo) (cx vy)
theorem qp : aq zI FR := rl (cx mv) dz
theorem R7 : aq zI OH := rc (cd qp) (cx mv) dz
theorem DI : aq zI FS := rc (cd qp) (cx mv) dz
theorem R8 : ∀ i, aq zI (aaI i) := rb (cd DI) (cx mv)
theorem DX : XQ x6 x7 H =
 some (x7, H) :=
 (by kernel_rfl)
theorem S3 : LR x0 x1 x2 x6 x7 x8 H =
 (aj .other .add x8 (vi 1)).bind fun a =>
 GB x0 x1 x2 x6 x7 a H :=
 (by kernel_rfl)
theorem LN : GA x0 x1 x2 x6 x7 x8 x9 H =
 (aj .other .add x9 (vi 1)).bind fun a =>
 zj x0 x1 x2 x6 x7 x8 a H :=
 (by kernel_rfl)
theorem LQ : Pz x0 x1 x2 x6 x7 x8 x9 x10 H =
 (aj .other .add x10 (vi 1)).bind fun a =>
 zk x0 x1 x2 x6 x7 x8 x9 a H :=
 (by kernel_rfl)
theorem LP : Py x0 x1 x2 x6 x7 x8 x9 x10 H =
 ld [.i 1 x9] x0 H fun c =>
 (FF a9 [c, x1] H).bind fun a =>
 sK 1 1 [(vi 0)] [(0, a.1)] a.2 fun d e =>
 (cO 1 8 x7 d e).bind fun b =>
 Pz x0 x1 x2 x6 b.1 x8 x9 x10 b.2 :=
 (pt rfl 0 DI (bt rfl (eD [1, 1, 0, 1, 4, 5, 1, 0, 4, 1, 4, 5, 1, 0, 4, 1, 1, 4, 5, 1, 0, 4]) 5 R8 (by kernel_rfl)))
theorem t4 : qz x0 x1 x2 x6 x7 x8 x9 H = GA x0 x1 x2 x6 x7 x8 x9 H :=
 (by kernel_rfl)
theorem Bb : zk x0 x1 x2 x6 x7 x8 x9 x10 H =
 ld [.i 1 x9] x0 H fun c =>
 (FF a9 [c, (vi 7)] H).bind fun b =>
 (aj .other .rem x8 (vi 3)).bind fun d =>
 (aj .other .mul b.1 d).bind fun e =>
 (aj .other .lss x10 e).bind fun a =>
 (gV a true x7).bind fun f =>
 (tX (yv a) true (dt f some) (some undef)).bind fun g =>
 (gV a true x2).bind fun j =>
 (gB a true (aj .other .lss g j)).bind fun k =>
 (aH a k (vb false)).bind fun l =>
 au l
 (Py x0 x1 x2 x6 x7 x8 x9 x10 b.2)
 (qz x0 x1 x2 x6 x7 x8 x9 b.2) :=
 xS rfl qp (pt rfl 0 R7 (by kernel_rfl))
theorem LO : Px x0 x1 x2 x6 x7 x8 x9 x10 H =
 zk x0 x1 x2 x6 x7 x8 x9 x10 H :=
 (bt rfl (eD [1, 1, 0, 1, 4, 5, 1, 0, 4, 1, 4, 5, 1, 0, 4, 1, 1, 4]) 4 mv (li rfl (eD [1, 1, 0, 1, 4, 5, 1, 0, 4, 1, 4, 5, 1, 0, 4, 1, 1, 4, 5]) qp (by kernel_rfl)))
theorem LM : Pw x0 x1 x2 x6 x7 x8 x9 H =
 ld [.i 1 x9] x0 H fun c =>
 (FF a9 [c, x1] H).bind fun a =>
 sK 1 1 [(vi 0)] [(0, a.1)] a.2 fun d e =>
 (cO 1 8 x7 d e).bind fun b =>
 Px x0 x1 x2 x6 b.1 x8 x9 (vi 0) b.2 :=
 (pt rfl 0 qo (bt rfl (eD [1, 1, 0, 1, 4, 5, 1, 0, 4, 1, 4, 5, 1, 0, 4]) 3 vy (pt rfl 1 R6 (by kernel_rfl))))
theorem Gz : vS x0 x1 x2 x6 x7 x8 H = LR x0 x1 x2 x6 x7 x8 H :=
 (by kernel_rfl)
theorem LK : zj x0 x1 x2 x6 x7 x8 x9 H =
 dt x0 fun b =>
 (aj .other .lss x9 b).bind fun a =>
 (gV a true x7).bind fun c =>
 (tX (yv a) true (dt c some) (some undef)).bind fun d =>
 (gV a true x2).bind fun e =>
 (gB a true (aj .other .lss d e)).bind fun f =>
 (aH a f (vb false)).bind fun g =>
 au g
 (Pw x0 x1 x2 x6 x7 x8 x9 H)
 (vS x0 x1 x2 x6 x7 x8 H) :=
 xS rfl qn (pt rfl 0 R5 (by kernel_rfl))
theorem S4 : XT x0 x1 x2 x6 x7 x8 x9 H =
 zj x0 x1 x2 x6 x7 x8 x9 H :=
 (bt rfl (eD [1, 1, 0, 1, 4, 5, 1, 0, 4, 1, 4]) 2 mu (li rfl (eD [1, 1, 0, 1, 4, 5, 1, 0, 4, 1, 4, 5]) qn (by kernel_rfl)))
theorem S2 : XS x0 x1 x2 x6 x7 x8 H =
 XT x0 x1 x2 x6 x7 x8 (vi 0) H :=
 (pt rfl 0 tn (bt rfl (eD [1, 1, 0, 1, 4, 5, 1, 0, 4]) 1 Au (pt rfl 0 VO (by kernel_rfl))))
theorem xe : IN x6 x7 H = XQ x6 x7 H :=
 (by kernel_rfl)
theorem DY : GB x0 x1 x2 x6 x7 x8 H =
 (aj .other .lss x8 (vi 40)).bind fun a =>
 (gV a true x0).bind fun b =>
 (tX (yv a) true (dt b some) (some undef)).bind fun c =>
 (gB a true (aj .other .gtr c (vi 0))).bind fun d =>
 (aH a d (vb false)).bind fun e =>
 au e
 (XS x0 x1 x2 x6 x7 x8 H)
 (IN x6 x7 H) :=
 xS rfl tm (pt rfl 0 VM (by kernel_rfl))
theorem S0 : XR x0 x1 x2 x6 x7 x8 H =
 GB x0 x1 x2 x6 x7 x8 H :=
 (bt rfl (eD [1, 1, 0, 1, 4]) 0 oN (li rfl (eD [1, 1, 0, 1, 4, 5]) tm (by kernel_rfl)))
theorem SZ : XP x0 x1 x2 x6 x7 H =
 XR x0 x1 x2 x6 x7 (vi 0) H :=
 (pt rfl 0 At (pt rfl 0 VK (by kernel_rfl)))
noncomputable def pMa : OV := aQ PP GG FF (eD []) (ls [x0, x1, x2] 66) H gL bv gL
theorem adV {r : Value × AH} (h : (
 XP x0 x1 x2 (.slice none 0 0) (.slice none 0 0) H) = some r) : FF Pq [x0, x1, x2] H = some r :=
 fo (t := pMa x0 x1 x2 H) Tryz.func30 (by kernel_rfl) (Eq.trans (pt rfl 1 VI (by kernel_rfl)) h)
theorem tR {r : Value × AH} (h : (
 ld [.n, .f 1] x0 H fun b =>
 (FF XE [b] H).bind fun a =>
 some (a.1, a.2)) = some r) : FF fm [x0] H = some r :=
 fo Tryz.func32 (by kernel_rfl) h
theorem uN {r : Value × AH} (h : (
 ad [.n, .f 0] x0 fun a =>
 (ap a H).bind fun d =>
 (FF cW [x0, (vi 11), (vi 0)] H).bind fun b =>
 bE (ap a b.2) (ap a H) <|
 (FF cD [d, x1, b.1] b.2).bind fun c =>
 some (c.1, c.2)) = some r) : FF fv [x0, x1] H = some r :=
 fo Tryz.func40 (by kernel_rfl) h
theorem GD {r : Value × AH} (h : (
 aS (Value.cells x0).toList H fun a m =>
 (ax 5 a m).bind fun n =>
 (FF lT [n] m).bind fun j =>
 (pr .not j.1).bind fun o =>
 au o
 (some (Value.tuple #[(.pointer none), (vi 1)], j.2))
 ((FF vO [] j.2).bind fun b =>
 ld [.f 0] a b.2 fun p =>
 (FF o8 [b.1, p] b.2).bind fun c =>
 ad [.f 0] a fun k =>
 (ap k c.2).bind fun q =>
 bE (ap k b.2) (ap k c.2) <|
 ad [.f 1] a fun l =>
 (ap l c.2).bind fun s =>
 bE (ap l b.2) (ap l c.2) <|
 (FF pk [b.1, q, s] c.2).bind fun d =>
 ad [.f 2] a fun i =>
 (ap i d.2).bind fun t =>
 bE (ap i b.2) (ap i d.2) <|
 bE (ap i c.2) (ap i d.2) <|
 (FF r4 [b.1, t] d.2).bind fun e =>
 (ax 5 a e.2).bind fun w =>
 bE (ax 5 a b.2) (ax 5 a e.2) <|
 bE (ax 5 a c.2) (ax 5 a e.2) <|
 bE (ax 5 a d.2) (ax 5 a e.2) <|
 (FF rV [w] e.2).bind fun g =>
 (ax 5 a g.2).bind fun y =>
 bE (ax 5 a b.2) (ax 5 a g.2) <|
 bE (ax 5 a c.2) (ax 5 a g.2) <|
 bE (ax 5 a d.2) (ax 5 a g.2) <|
 bE (ax 5 a e.2) (ax 5 a g.2) <|
 CG g.2 fun z A =>
 gR [(0, 1), (1, 1), (2, 1), (3, 1), (4, 1), (5, 5), (10, 1), (11, 1), (12, 1)] [(.pointer none), (.pointer none), (.pointer none), (.pointer none), (.pointer none), (vi 0), (vi 0), (vi 0), (vi 0), (vw 0), (.slice none 0 0), (.map none), (.slice none 0 0)] [(0, b.1), (1, c.1), (2, d.1), (3, e.1), (4, g.1), (5, y), (7, z)] fun B =>
 aS (Value.cells B).toList A fun C D =>
 some (Value.tuple #[C, (vi 0)], D))) = some r) : FF pc [x0] H = some r :=
 fo Tryz.func44 (by kernel_rfl) h
theorem yL {r : Value × AH} (h : (
 aS (Value.cells x0).toList H fun a m =>
 gR [(0, 1), (1, 1), (2, 1)] [(.slice none 0 0), (.slice none 0 0), (.slice none 0 0)] [] fun n =>
 aS (Value.cells n).toList m fun i b =>
 (ax 5 a b).bind fun o =>
 ld [.f 0] a b fun p =>
 (FF kH [i, p] b).bind fun c =>
 bE (ax 5 a c.2) (ax 5 a b) <|
 ad [.f 0] a fun j =>
 (ap j c.2).bind fun q =>
 bE (ap j b) (ap j c.2) <|
 ad [.f 1] a fun k =>
 (ap k c.2).bind fun s =>
 bE (ap k b) (ap k c.2) <|
 (FF kJ [i, q, s] c.2).bind fun d =>
 bE (ax 5 a d.2) (ax 5 a b) <|
 ad [.f 2] a fun g =>
 (ap g d.2).bind fun t =>
 bE (ap g b) (ap g d.2) <|
 bE (ap g c.2) (ap g d.2) <|
 (FF lX [i, t] d.2).bind fun e =>
 bE (ax 5 a e.2) (ax 5 a b) <|
 (ax 5 a e.2).bind fun w =>
 bE (ax 5 a b) (ax 5 a e.2) <|
 bE (ax 5 a c.2) (ax 5 a e.2) <|
 bE (ax 5 a d.2) (ax 5 a e.2) <|
 (FF lW [w] e.2).bind fun l =>
 bE (ax 5 a l.2) (ax 5 a b) <|
 gR [(0, 5), (5, 1), (6, 1), (7, 1), (8, 1), (9, 1), (10, 1), (11, 1), (12, 1), (13, 1)] [(vi 0), (vi 0), (vi 0), (vi 0), (vw 0), (.pointer none), (.pointer none), (.pointer none), (.pointer none), (.pointer none), (.slice none 0 0), (.slice none 0 0), (.slice none 0 0), (.slice none 0 0)] [(0, o), (1, i), (2, c.1), (3, d.1), (4, e.1), (5, l.1)] fun y =>
 aS (Value.cells y).toList l.2 fun z A =>
 some (z, A)) = some r) : FF kI [x0] H = some r :=
 fo Tryz.func45 (by kernel_rfl) h
theorem xR {r : Value × AH} (h : (
 aS (Value.cells x0).toList H fun i l =>
 ld [.f 1] i l fun s =>
 ldN 5 [.n, .f 0] s l fun t =>
 aS [(vi 0), (vi 0), (vi 0), (vi 0), (vw 0)] l fun g w =>
 (cZ 5 g t w).bind fun p =>
 ld [.f 4] g p fun y =>
 (FF lV [y, x2] p).bind fun m =>
 (ah m.1 0).bind fun z =>
 (ah m.1 1).bind fun a3 =>
 gR [(0, 1), (1, 1), (2, 1)] [(vi 0), (vi 0), (vw 0)] [(0, x1), (1, x3), (2, z)] fun A =>
 aS [(vi 0), (vi 0), (vw 0)] m.2 fun j B =>
 (cZ 3 j A B).bind fun k =>
 ld [.f 0] i k fun C =>
 (ax 3 j k).bind fun D =>
 (FF gh [C, (vi 0), D] k).bind fun d =>
 ad [.f 1] i fun o =>
 (ap o d.2).bind fun E =>
 bE (ap o k) (ap o d.2) <|
 (ax 3 j d.2).bind fun G =>
 bE (ax 3 j k) (ax 3 j d.2) <|
 (FF iF [E, (vi 0), G] d.2).bind fun c =>
 (aj .other .eql d.1 c.1).bind fun a =>
 ed a true  [.f 0] i c.2 fun I =>
 ed a true  [.n, .f 2] I c.2 fun J =>
 (gV a true x1).bind fun K =>
 ed a true  [.f 0] g c.2 fun L =>
 (gB a true (aj .other .rem K L)).bind fun M =>
 (gV a true x1).bind fun N =>
 ed a true  [.f 0] g c.2 fun O =>
 (gB a true (aj .other .quo N O)).bind fun P =>
 (gV a true x1).bind fun Q =>
 (gV a true d.1).bind fun R =>
 (gE a true c.2 (FF g6 [J, (vi 0), M, P, Q, R] c.2)).bind fun e =>
 (aH a e.1 (vb false)).bind fun b =>
 ed b true  [.f 1] i e.2 fun S =>
 ed b true  [.n, .f 7] S e.2 fun T =>
 (gV b true x1).bind fun U =>
 ed b true  [.f 0] g e.2 fun V =>
 (gB b true (aj .other .rem U V)).bind fun W =>
 (gV b true x1).bind fun X =>
 ed b true  [.f 0] g e.2 fun Y =>
 (gB b true (aj .other .quo X Y)).bind fun Z =>
 (gV b true x1).bind fun a0 =>
 (gV b true c.1).bind fun a1 =>
 (gE b true e.2 (FF ju [T, (vi 0), W, Z, a0, a1] e.2)).bind fun q =>
 (aH b q.1 (vb false)).bind fun a2 =>
 some (a2, q.2)) = some r) : FF kC [x0, x1, x2, x3] H = some r :=
 fo Tryz.func46 (by kernel_rfl) h
theorem mD {r : Value × AH} (h : (
 (FF o7 [x0, x1, (.func (.func lS) #[] #[])] H).bind fun a =>
 some (a.1, a.2)) = some r) : FF dW [x0, x1] H = some r :=
 fo Tryz.func49 (by kernel_rfl) h
theorem xW {r : Value × AH} (h : (
 aS (Value.cells x2).toList H fun a b =>
 (ax 3 a b).bind fun e =>
 (FF cE [x0, x1, (vi 1), e] b).bind fun c =>
 (ax 3 a c.2).bind fun f =>
 (FF dI [x0, f] c.2).bind fun d =>
 some (d.1, d.2)) = some r) : FF cD [x0, x1, x2] H = some r :=
 fo Tryz.func56 (by kernel_rfl) h
theorem C5 {r : Value × AH} (h : (
 aS [(vi 0), (vi 0), (vi 0)] H fun a c =>
 gR [(0, 1), (1, 1), (2, 1)] [(vi 0), (vi 0), (vi 0)] [(0, (vi 10)), (1, x0), (2, x1)] fun d =>
 (cZ 3 a d c).bind fun b =>
 (ax 3 a b).bind fun e => some (e, b)) = some r) : FF jH [x0, x1] H = some r :=
 fo Tryz.func57 (by kernel_rfl) h
theorem qP {r : Value × AH} (h : (
 (aj .other .geq x1 (vi 0)).bind fun a =>
 (gV a true x1).bind fun b =>
 (gV a true x0).bind fun c =>
 ed a true  [.n, .f 10] c H fun d =>
 (tX (yv a) true (dt d some) (some undef)).bind fun e =>
 (gB a true (aj .other .lss b e)).bind fun g =>
 (aH a g (vb false)).bind fun i =>
 some (i, H)) = some r) : FF dX [x0, x1] H = some r :=
 fo Tryz.func58 (by kernel_rfl) h
theorem xY {r : Value × AH} (h : (
 aS (Value.cells x2).toList H fun b a =>
 (ax 3 b a).bind fun c =>
 (FF cE [x0, x1, (vi 5), c] a).bind fun d =>
 some (Value.tuple #[], d.2)) = some r) : FF kD [x0, x1, x2] H = some r :=
 fo Tryz.func59 (by kernel_rfl) h
theorem tL {r : Value × AH} (h : (
 aS (Value.cells x0).toList H fun a b =>
 ld [.f 0] a b fun d =>
 (FF fK [d, x1, x2] b).bind fun c =>
 ld [.f 1] a c.2 fun e =>
 (FF gZ [e, x1, x2] c.2).bind fun g =>
 some (Value.tuple #[], g.2)) = some r) : FF iC [x0, x1, x2] H = some r :=
 fo Tryz.func60 (by kernel_rfl) h
theorem Kl {r : Value × AH} (h : (
 aS (Value.cells x2).toList H fun b a =>
 (ax 4 b a).bind fun e =>
 ld [.n, .f 2] x0 a fun g =>
 ld [.f 1] b a fun i =>
 (FF fL [g, i] a).bind fun c =>
 bE (ax 4 b c.2) (ax 4 b a) <|
 gR [(0, 1), (1, 1), (2, 4), (6, 1), (7, 1), (8, 1), (9, 1), (10, 1), (11, 1), (12, 1), (13, 1), (14, 1), (15, 1)] [(.pointer none), (vi 0), (vi 0), (vi 0), (vi 0), (vi 0), (vi 0), Value.nilFunc, (vi 0), (vi 0), (vb false), (.pointer none), (vw 0), (vw 0), (vi 0), (vw 0)] [(0, x0), (1, x1), (2, e), (3, c.1)] fun j =>
 aS (Value.cells j).toList c.2 fun d k =>
 st 1 [.n, .f 7] d (.func (.func kB) #[d] #[]) k fun l =>
 some (d, l)) = some r) : FF vN [x0, x1, x2] H = some r :=
 fo Tryz.func61 (by kernel_rfl) h
theorem BF {r : Value × AH} (h : (
 aS (Value.cells x2).toList H fun b a =>
 (ax 4 b a).bind fun c =>
 gR [(0, 1), (1, 1), (2, 4), (6, 1), (7, 1), (8, 1), (9, 1), (10, 1), (11, 1), (12, 1), (13, 1), (14, 1), (15, 1), (16, 1), (17, 4), (21, 1), (22, 1), (23, 1), (24, 1), (25, 1), (26, 3), (29, 1), (30, 4)] [(.pointer none), (vi 0), (vi 0), (vi 0), (vi 0), (vi 0), (vi 0), (vi 0), (vi 0), (vb false), (vi 0), (vw 0), (vw 0), (vw 0), (vw 0), (vw 0), (vi 0), (vi 0), (.slice none 0 0), (vi 0), (vw 0), (vi 0), (vi 0), (.slice none 0 0), (vw 0), (vw 0), (vi 0), (vi 0), (vi 0), (vb false), (vi 0), (.slice none 0 0), (vi 0), (vw 0)] [(0, x0), (1, x1), (2, c), (5, (vi (-1)))] fun d =>
 aS (Value.cells d).toList a fun e f =>
 some (e, f)) = some r) : FF lZ [x0, x1, x2] H = some r :=
 fo Tryz.func62 (by kernel_rfl) h
theorem J6 {r : Value × AH} (h : (
 aS [(vi 0), (.slice none 0 0), (vi 0), (vw 0)] H fun b d =>
 ld [.n, .f 7] x0 d fun g =>
 (cI g [x1]).bind fun c => (FF c.1 c.2 d).bind fun a =>
 (ah a.1 0).bind fun i =>
 (ah a.1 1).bind fun j =>
 (cZ 4 b i a.2).bind fun e =>
 (ax 4 b e).bind fun k => some (Value.tuple #[k, j], e)) = some r) : FF vM [x0, x1] H = some r :=
 fo Tryz.func63 (by kernel_rfl) h
end
end Go.Proofs.YtghoamdlcjdfjaaGreatDoor.Gst
