/- Several texts in one. -/
import Derived.Test.YtghoamdlcjdfjaaGreatDoorPa
namespace Go.Proofs.YtghoamdlcjdfjaaGreatDoor.Gst
open Go Go.RowKit
set_option linter.unusedSimpArgs false
def uC (ops : List Oper) : Bool :=
 let ms := cn ops
 ops.zipIdx.all (fun p => p.1.after.toList.all fun e => !Region.binds .any e || decide (e.on < p.2)) &&
 ops.zipIdx.all fun q => (ops.zipIdx.take q.2).all fun p => fb ms p.2 q.2 || (p.1.apart ops.toArray q.1 && !(lF p.1.op == 3 && lF q.1.op == 3))
def ee (ops : List Oper) : List (Nat × Nat) :=
 let ms := cn ops
 (ops.zipIdx.filter fun p => lF p.1.op == 2).flatMap fun p => ((ops.zipIdx.filter fun q => lF q.1.op == 3 && !fb ms q.2 p.2 && !fb ms p.2 q.2).map fun q => (p.2, q.2))
def km (P : Program) (G : List Nat) (call : bE) (ops : Array Oper) (A : List Value) (H : AH) (i : Nat) : List Value × AH := (dm P G call ops (ops.toList.take i) A H).getD (A, H)
def ku (P : Program) (s : Nat → List Value × AH) (ops : Array Oper) (p : Nat × Nat) : Prop :=
 ∀ o, ops[p.1]? = some o → CN P (f8 (s p.1).1) o.op (s (if p.2 < p.1 then p.2 else p.2 + 1)).2 = CN P (f8 (s p.1).1) o.op (s p.1).2
open Classical in
noncomputable def Lm {α : Type} (p : Prop) (x : Option α) : Option α := if p then x else none
theorem o5 {α : Type} {p : Prop} {x : Option α} {r : α} (h : Lm p x = some r) : p ∧ x = some r := by
 unfold Lm at h
 split at h
 ·exact ⟨by assumption, h⟩
 ·cases h
theorem lh {α : Type} {p : Prop} (h : p) (x : Option α) : Lm p x = x := by unfold Lm; rw [if_pos h]
noncomputable def nM (P : Program) (G : List Nat) (call : bE) (ops : Array Oper) (A : List Value) (H : AH) : Option (List Value × AH) :=
 match uC ops.toList with
 | false => none
 | true => match ee ops.toList with
  | [] => dm P G call ops ops.toList A H
  | p :: ps => Lm (∀ q ∈ p :: ps, ku P (km P G call ops A H) ops q) (dm P G call ops ops.toList A H)
theorem gR {P : Program} {G : List Nat} {call : bE} {ops : Array Oper} {A : List Value} {H : AH} {r : List Value × AH} (h : nM P G call ops A H = some r) :
 uC ops.toList = true ∧ (∀ p ∈ ee ops.toList, ku P (km P G call ops A H) ops p) ∧ dm P G call ops ops.toList A H = some r := by
 unfold nM at h
 cases h1 : uC ops.toList with
 | false => rw [h1] at h; cases h
 | true =>
  rw [h1] at h;refine ⟨rfl, ?_⟩
  cases h2 : ee ops.toList with
  | nil => rw [h2] at h; exact ⟨fun p hp => (by cases hp), h⟩
  | cons p ps =>
   rw [h2] at h;exact o5 h
section
variable {P : Program} {w0 : World} {B : Nat} {ρ : bQ} {H : AH} {w : World} {G : List Nat} {call : bE} {ops : Array Oper}
theorem Am (l1 l2 : List Oper) (A : List Value) (H : AH) : dm P G call ops (l1 ++ l2) A H = (dm P G call ops l1 A H).bind fun s => dm P G call ops l2 s.1 s.2 := by
 induction l1 generalizing A H with
 | nil => rfl
 | cons o l ih =>
  simp only [List.cons_append, dm];rw [Option.bind_assoc]
  congr 1
  funext s
  exact ih s.1 s.2
theorem yN {A : List Value} {r : List Value × AH} (h : dm P G call ops ops.toList A H = some r) (i : Nat) : dm P G call ops (ops.toList.take i) A H = some (km P G call ops A H i) := by
 unfold km;have e : ops.toList = ops.toList.take i ++ ops.toList.drop i := (List.take_append_drop ..).symm;rw [e, Am] at h;obtain ⟨s, hs, _⟩ := aI.1 h;rw [hs]; rfl
theorem acJ (A : List Value) : km P G call ops A H 0 = (A, H) := rfl
theorem agX {A : List Value} {r : List Value × AH} (h : dm P G call ops ops.toList A H = some r) : km P G call ops A H ops.size = r := by
 unfold km;rw [show ops.size = ops.toList.length by simp, List.take_length, h]
 rfl
theorem MW {A : List Value} {r : List Value × AH} (h : dm P G call ops ops.toList A H = some r) {i : Nat} {o : Oper} (ho : ops[i]? = some o) :
 gS P G call ops o (km P G call ops A H i).1 (km P G call ops A H i).2 = some (km P G call ops A H (i + 1)) := by
 have ho' : ops.toList[i]? = some o := by simpa using ho
 have h1 := yN h (i + 1);rw [List.take_add_one, ho', Option.toList_some, Am, yN h i] at h1;simp only [bL, dm] at h1;obtain ⟨s, hs, e⟩ := aI.1 h1;rw [hs];exact e
noncomputable def alR (P : Program) (G : List Nat) (call : bE) (ops : Array Oper) (A : List Value) (H : AH) (i : Nat) : Value :=
 match ops[i]? with
 | some o => if Region.wanted o (dN ops (km P G call ops A H i).1) = true then ((ft P call (f8 (km P G call ops A H i).1) o (km P G call ops A H i).2).map (·.1)).getD undef else undef
 | none => undef
theorem PI (h : uC ops.toList = true) : ∀ j o, ops[j]? = some o → ∀ e ∈ o.after, Region.binds .any e = true → e.on < j := by
 intro j o ho e he hb;unfold uC at h;simp only [Bool.and_eq_true, List.all_eq_true] at h
 have ho' : ops.toList[j]? = some o := by simpa using ho
 have hm : (o, j) ∈ ops.toList.zipIdx := by
  rw [List.mem_iff_getElem?];exact ⟨j, by rw [List.getElem?_zipIdx, ho']; simp⟩
 have := h.1 (o, j) hm e (by simpa using he)
 simpa [hb] using this
theorem PJ (h : uC ops.toList = true) : ∀ i j oi oj, i < j → ops[i]? = some oi → ops[j]? = some oj → fb (cn ops.toList) i j = true ∨ (oi.apart ops oj = true ∧ ¬ (lF oi.op = 3 ∧ lF oj.op = 3)) := by
 intro i j oi oj hij hi hj;unfold uC at h;simp only [Bool.and_eq_true, List.all_eq_true] at h
 have hi' : ops.toList[i]? = some oi := by simpa using hi
 have hj' : ops.toList[j]? = some oj := by simpa using hj
 have hm : (oj, j) ∈ ops.toList.zipIdx := by
  rw [List.mem_iff_getElem?];exact ⟨j, by rw [List.getElem?_zipIdx, hj']; simp⟩
 have hm2 : (oi, i) ∈ ops.toList.zipIdx.take j := by
  rw [List.mem_iff_getElem?];exact ⟨i, by rw [List.getElem?_take, if_pos hij, List.getElem?_zipIdx, hi']; simp⟩
 have := h.2 (oj, j) hm (oi, i) hm2;simp only [Bool.or_eq_true, Bool.and_eq_true, Bool.not_eq_true', Bool.and_eq_false_iff, beq_eq_false_iff_ne, Array.toArray_toList] at this
 rcases this with h1 | ⟨h1, h2⟩
 ·exact .inl h1
 ·exact .inr ⟨h1, fun h3 => by rcases h2 with h2 | h2; exact h2 h3.1; exact h2 h3.2⟩
theorem Gg {j e : Nat} {oj oe : Oper} (hj : ops[j]? = some oj) (he : ops[e]? = some oe) (h2 : lF oj.op = 2) (h3 : lF oe.op = 3) (hf1 : fb (cn ops.toList) e j = false) (hf2 : fb (cn ops.toList) j e = false) : (j, e) ∈ ee ops.toList := by
 have hj' : ops.toList[j]? = some oj := by simpa using hj
 have he' : ops.toList[e]? = some oe := by simpa using he
 unfold ee;simp only [List.mem_flatMap, List.mem_filter, List.mem_map];refine ⟨(oj, j), ⟨?_, by simp [h2]⟩, (oe, e), ⟨?_, by simp [h3, hf1, hf2]⟩, rfl⟩
 ·rw [List.mem_iff_getElem?]; exact ⟨j, by rw [List.getElem?_zipIdx, hj']; simp⟩
 ·rw [List.mem_iff_getElem?]; exact ⟨e, by rw [List.getElem?_zipIdx, he']; simp⟩
noncomputable def aiC {A : List Value} {r : List Value × AH} (h : nM P G call ops A H = some r) : Tra P G call ops where
 s := km P G call ops A H
 val := alR P G call ops A H
 step := fun i o ho => by
  obtain ⟨_, _, hr⟩ := gR h;have hs := MW hr ho;unfold gS at hs
  split at hs
  ·rename_i hok
   refine ⟨hok, ?_⟩;unfold alR;rw [ho];simp only
   split at hs
   ·rename_i hw
    obtain ⟨⟨v, H2⟩, hv, e⟩ := bm.1 hs;rw [if_pos hw, hv, ← e];exact ⟨rfl, .inl ⟨hw, rfl⟩⟩
   ·rename_i hw
    rw [if_neg hw];have e := (gr hs).symm;rw [e];exact ⟨rfl, .inr ⟨by simpa using hw, rfl, rfl⟩⟩
  ·cases hs
 back := PI (gR h).1
 pair := PJ (gR h).1
 look := fun j e oj oe hj he h2 h3 hf1 hf2 => (gR h).2.1 (j, e) (Gg hj he h2 h3 hf1 hf2) oj hj
theorem NL (hcall : mI P G call) (hmono : iN call) (hm : P.follows .mixedOrders = true) {id : Nat} {Q : Exit → Act → World → Prop} {A : List Value} {a : Act} {A' : List Value} {H' : AH} (h : nM P G call ops A H = some (A', H'))
 (hA : cC P ρ A a) (hG : GlobRel ρ G) (hR : Rel P w0 B ρ H w) (hQ : ∀ a' w', CE P w0 B G ρ H w A' H' a' w' → Q .normal a' w') : (Code.region id ops true).wp P Q a w := by
 have W : Way (aiC h) w0 B ρ w.drew := ⟨hcall, hmono, hG, hR.drew, ⟨a, hA⟩⟩;refine PN W hm (w := w) rfl hA (fun a' w' hp => hQ a' w' ?_);obtain ⟨ρ', h1, h2, h3, h4⟩ := hp;have e : (aiC h).s ops.size = (A', H') := agX (gR h).2.2;rw [e] at h1 h3 h4;exact ⟨ρ', h1, h2, jr.of_drew h3, h4⟩
end
inductive AE where
 | normal
 | exit (id : Nat)
 | ret
deriving DecidableEq
abbrev AR := AE × List Value × AH
def fK (f : List Value → AH → Option AR) : Nat → List Value → AH → Option AR
 | 0, _, _ => none
 | n + 1, A, H => (f A H).bind fun r => match r.1 with
  | .normal => fK f n r.2.1 r.2.2
  | _ => some r
theorem CJ {f : List Value → AH → Option AR} {n : Nat} {A : List Value} {H : AH} {r : AR} (h : fK f n A H = some r) : ∀ m, n ≤ m → fK f m A H = some r := by
 induction n generalizing A H with
 | zero => cases h
 | succ n ih =>
  intro m hm;obtain ⟨m, rfl⟩ : ∃ k, m = k + 1 := ⟨m - 1, by omega⟩;simp only [fK] at h ⊢;obtain ⟨s, hs, h⟩ := aI.1 h;rw [hs];simp only [bL]
  split at h
  ·exact ih h m (by omega)
  ·exact h
open Classical in
noncomputable def qz (f : List Value → AH → Option AR) (A : List Value) (H : AH) : Option AR := if h : ∃ n r, fK f n A H = some r then some h.choose_spec.choose else none
theorem dl {f : List Value → AH → Option AR} {A : List Value} {H : AH} {r : AR} : qz f A H = some r ↔ ∃ n, fK f n A H = some r := by
 unfold qz
 constructor
 ·intro h
  split at h
  ·rename_i hx
   cases h;exact ⟨_, hx.choose_spec.choose_spec⟩
  ·cases h
 ·rintro ⟨n, hn⟩
  have hx : ∃ n r, fK f n A H = some r := ⟨n, r, hn⟩;rw [dif_pos hx];have h1 := CJ hx.choose_spec.choose_spec (max n hx.choose) (Nat.le_max_right ..);have h2 := CJ hn (max n hx.choose) (Nat.le_max_left ..);rw [h2] at h1;exact h1.symm
theorem Xo (f : List Value → AH → Option AR) (A : List Value) (H : AH) : qz f A H = (f A H).bind fun r => match r.1 with | .normal => qz f r.2.1 r.2.2 | _ => some r := by
 apply Option.ext;intro r;rw [dl]
 constructor
 ·rintro ⟨n, hn⟩
  cases n with
  | zero => cases hn
  | succ n =>
   simp only [fK] at hn;obtain ⟨s, hs, h⟩ := aI.1 hn;rw [hs];simp only [bL]
   split at h
   ·exact dl.2 ⟨n, h⟩
   ·exact h
 ·intro h
  obtain ⟨s, hs, h⟩ := aI.1 h
  split at h
  ·rename_i e
   obtain ⟨n, hn⟩ := dl.1 h;refine ⟨n + 1, ?_⟩;simp only [fK, hs, bL, e];exact hn
  ·rename_i e
   refine ⟨1, ?_⟩;simp only [fK, hs, bL];exact h
noncomputable def gF (P : Program) (G : List Nat) (call : bE) (ops : Array Oper) (draw : Bool) (A : List Value) (H : AH) : Option (List Value × AH) :=
 match draw with
 | true => nM P G call ops A H
 | false => dm P G call ops ops.toList A H
noncomputable def be (P : Program) (G : List Nat) (call : bE) : Code → List Value → AH → Option AR
 | .skip, A, H => some (.normal, A, H)
 | .label _, A, H => some (.normal, A, H)
 | .region _ ops draw, A, H => (gF P G call ops draw A H).map fun s => (.normal, s.1, s.2)
 | .seq x y, A, H => (be P G call x A H).bind fun r => match r.1 with
  | .normal => be P G call y r.2.1 r.2.2
  | _ => some r
 | .cond c x y, A, H => match f8 A c with
  | .bool true => be P G call x A H
  | .bool false => be P G call y A H
  | _ => none
 | .block id x, A, H => (be P G call x A H).map fun r => match r.1 with
  | .exit i => if i = id then (.normal, r.2.1, r.2.2) else r
  | _ => r
 | .loop x, A, H => qz (be P G call x) A H
 | .exit id, A, H => some (.exit id, A, H)
 | .ret, A, H => some (.ret, A, H)
 | _, _, _ => none
def AE.to : AE → Exit
 | .normal => .normal
 | .exit id => .exit id
 | .ret => .ret
section
variable {P : Program} {w0 : World} {B : Nat} {G : List Nat} {call : bE}
theorem CE.trans {ρ ρ1 : bQ} {H H1 H2 : AH} {w w1 w2 : World} {A2 : List Value} {a2 : Act} (hR : Rel P w0 B ρ H w) (hE : jr ρ H w ρ1 H1 w1) (h : CE P w0 B G ρ1 H1 w1 A2 H2 a2 w2) : CE P w0 B G ρ H w A2 H2 a2 w2 := by
 obtain ⟨ρ', h1, h2, h3, h4⟩ := h;exact ⟨ρ', h1, h2, hE.trans hR h3, h4⟩
theorem Dd (hcall : mI P G call) (hmono : iN call) (hm : P.follows .mixedOrders = true) : ∀ (c : Code) {Q : Exit → Act → World → Prop} {ρ : bQ} {A : List Value} {H : AH} {a : Act} {w : World} {e : AE} {A' : List Value} {H' : AH},
 be P G call c A H = some (e, A', H') → cC P ρ A a → GlobRel ρ G → Rel P w0 B ρ H w → (∀ a' w', CE P w0 B G ρ H w A' H' a' w' → Q e.to a' w') → c.wp P Q a w := by
 intro c
 induction c with
 | skip =>
  intro Q ρ A H a w e A' H' h hA hG hR hQ;simp only [be] at h; cases h;exact wp_skip (hQ a w ⟨ρ, hA, hG, jr.refl _ _ _, hR⟩)
 | label l =>
  intro Q ρ A H a w e A' H' h hA hG hR hQ;simp only [be] at h; cases h;exact wp_label (hQ a w ⟨ρ, hA, hG, jr.refl _ _ _, hR⟩)
 | exit id =>
  intro Q ρ A H a w e A' H' h hA hG hR hQ;simp only [be] at h; cases h;exact wp_exit (hQ a w ⟨ρ, hA, hG, jr.refl _ _ _, hR⟩)
 | ret =>
  intro Q ρ A H a w e A' H' h hA hG hR hQ;simp only [be] at h; cases h;exact wp_ret (hQ a w ⟨ρ, hA, hG, jr.refl _ _ _, hR⟩)
 | region id ops draw =>
  intro Q ρ A H a w e A' H' h hA hG hR hQ;simp only [be] at h;obtain ⟨⟨A1, H1⟩, hs, e1⟩ := bm.1 h;cases e1
  cases draw with
  | true => exact NL hcall hmono hm hs hA hG hR hQ
  | false => exact MK hcall hs hA hG hR hQ
 | seq x y ihx ihy =>
  intro Q ρ A H a w e A' H' h hA hG hR hQ;simp only [be] at h;obtain ⟨⟨e1, A1, H1⟩, hx, h⟩ := aI.1 h;refine wp_seq (ihx hx hA hG hR (fun a1 w1 hp => ?_))
  cases e1 with
  | normal =>
   simp only at h;obtain ⟨ρ1, hA1, hG1, hE1, hR1⟩ := hp;exact ihy h hA1 hG1 hR1 (fun a' w' hp => hQ a' w' (hp.trans hR hE1))
  | exit id => simp only at h; cases h; exact hQ a1 w1 hp
  | ret => simp only at h; cases h; exact hQ a1 w1 hp
 | cond c x y ihx ihy =>
  intro Q ρ A H a w e A' H' h hA hG hR hQ;simp only [be] at h
  have hc : ∀ t, f8 A c = .bool t → a.eval c = .bool t := by
   intro t ht
   cases c with
   | tmp u =>
    simp only [f8] at ht
    cases hx : A[u]? with
    | none => rw [hx] at ht; simp [undef] at ht
    | some x =>
     rw [hx] at ht;simp only [Option.getD_some] at ht;subst ht;obtain ⟨y, hy, hv⟩ := hA.tmps.get hx;rw [Array.getElem?_toList] at hy;simp only [Act.eval, Array.getD_eq_getD_getElem?, hy, Option.getD_some];exact hv.bool_inv
   | const v => exact ht
   | global g => cases ht
   | func f => cases ht
  split at h
  ·rename_i ht; exact wp_cond (hc _ ht) (ihx h hA hG hR hQ)
  ·rename_i ht; exact wp_cond (hc _ ht) (ihy h hA hG hR hQ)
  ·cases h
 | block id x ih =>
  intro Q ρ A H a w e A' H' h hA hG hR hQ;simp only [be] at h;obtain ⟨⟨e1, A1, H1⟩, hx, e2⟩ := bm.1 h;refine wp_block (ih hx hA hG hR (fun a1 w1 hp => ?_))
  cases e1 with
  | normal => simp only at e2; cases e2; exact hQ a1 w1 hp
  | ret => simp only at e2; cases e2; exact hQ a1 w1 hp
  | exit i =>
   simp only at e2;simp only [AE.to, Exit.inBlock]
   split at e2
   ·rename_i hi; cases e2; rw [if_pos hi]; exact hQ a1 w1 hp
   ·rename_i hi; cases e2; rw [if_neg hi]; exact hQ a1 w1 hp
 | loop x ih =>
  intro Q ρ A H a w e A' H' h hA hG hR hQ;simp only [be] at h;obtain ⟨n, hn⟩ := dl.1 h;refine wp_loop_rounds n ?_
  clear h
  induction n generalizing ρ A H a w with
  | zero => cases hn
  | succ n ihn =>
   simp only [fK] at hn;obtain ⟨⟨e1, A1, H1⟩, hx, h⟩ := aI.1 hn;rw [rounds_succ];refine ih hx hA hG hR (fun a1 w1 hp => ?_)
   cases e1 with
   | normal =>
    simp only at h;obtain ⟨ρ1, hA1, hG1, hE1, hR1⟩ := hp;exact ihn hA1 hG1 hR1 (fun a' w' hp => hQ a' w' (hp.trans hR hE1)) h
   | exit id => simp only at h; cases h; exact hQ a1 w1 hp
   | ret => simp only at h; cases h; exact hQ a1 w1 hp
 | rangeFunc f ps x y => intro Q ρ A H a w e A' H' h; simp [be] at h
 | scope x => intro Q ρ A H a w e A' H' h; simp [be] at h
 | goto l => intro Q ρ A H a w e A' H' h; simp [be] at h
 | refuse s => intro Q ρ A H a w e A' H' h; simp [be] at h
theorem tm (hm : iN call) {ops : Array Oper} : ∀ (l : List Oper) {A : List Value} {H : AH} {r : List Value × AH}, dm P G call ops l A H = some r → H.size ≤ r.2.size := by
 intro l
 induction l with
 | nil => intro A H r h; simp only [dm] at h; cases h; exact bI _
 | cons o l ih =>
  intro A H r h;simp only [dm] at h;obtain ⟨s, hs, h⟩ := aI.1 h;refine fy ?_ (ih h);unfold gS at hs
  split at hs
  ·split at hs
   ·obtain ⟨⟨v, H2⟩, hv, e⟩ := bm.1 hs
    cases e; exact KV hm hv
   ·cases hs; exact bI _
  ·cases hs
theorem CH (hm : iN call) : ∀ (c : Code) {A : List Value} {H : AH} {r : AR}, be P G call c A H = some r → H.size ≤ r.2.2.size := by
 intro c
 induction c with
 | skip => intro A H r h; simp only [be] at h; cases h; exact bI _
 | label l => intro A H r h; simp only [be] at h; cases h; exact bI _
 | exit id => intro A H r h; simp only [be] at h; cases h; exact bI _
 | ret => intro A H r h; simp only [be] at h; cases h; exact bI _
 | region id ops draw =>
  intro A H r h;simp only [be] at h;obtain ⟨s, hs, e1⟩ := bm.1 h;cases e1
  cases draw with
  | true => exact tm hm _ (gR hs).2.2
  | false => exact tm hm _ hs
 | seq x y ihx ihy =>
  intro A H r h;simp only [be] at h;obtain ⟨s, hx, h⟩ := aI.1 h;have h1 := ihx hx
  split at h
  ·exact fy h1 (ihy h)
  ·cases h; exact h1
 | cond c x y ihx ihy =>
  intro A H r h;simp only [be] at h
  split at h
  ·exact ihx h
  ·exact ihy h
  ·cases h
 | block id x ih =>
  intro A H r h;simp only [be] at h;obtain ⟨s, hx, e2⟩ := bm.1 h;have h1 := ih hx
  split at e2
  ·split at e2 <;> (subst e2; exact h1)
  ·subst e2; exact h1
 | loop x ih =>
  intro A H r h;simp only [be] at h;obtain ⟨n, hn⟩ := dl.1 h
  clear h
  induction n generalizing A H with
  | zero => cases hn
  | succ n ihn =>
   simp only [fK] at hn;obtain ⟨s, hx, h⟩ := aI.1 hn;have h1 := ih hx
   split at h
   ·exact fy h1 (ihn h)
   ·cases h; exact h1
 | rangeFunc f ps x y => intro A H r h; simp [be] at h
 | scope x => intro A H r h; simp [be] at h
 | goto l => intro A H r h; simp [be] at h
 | refuse s => intro A H r h; simp [be] at h
end
def lZ (P : Program) (A : List Value) (H : AH) : ResultVar → Option Value
 | .tmp t => some (A[t]?.getD undef)
 | .cell a t => (f6 P t).bind fun g => match g with
  | some n => ay n (A[a]?.getD undef) H
  | none => ar (A[a]?.getD undef) H
def uh (P : Program) (A : List Value) (H : AH) : List ResultVar → Option (List Value)
 | [] => some []
 | r :: rs => (lZ P A H r).bind fun v => (uh P A H rs).bind fun vs => some (v :: vs)
def jv (P : Program) (A : List Value) (H : AH) (rs : List ResultVar) : Option Value := (uh P A H rs).map fun vs => match vs with
 | [v] => v
 | vs => .tuple vs.toArray
def Xn (P : Program) (rs : List ResultVar) (r : AR) : Option (Value × AH) :=
 match r.1 with
 | .exit _ => none
 | _ => (jv P r.2.1 r.2.2 rs).map (·, r.2.2)
noncomputable def qy (P : Program) (G : List Nat) (call : bE) (n : Nat) (rs : List ResultVar) (c : Code) (args : List Value) (H : AH) : Option (Value × AH) :=
 (be P G call c (args ++ List.replicate (n - args.length) undef) H).bind (Xn P rs)
structure DSh where
 c1 : Code
 id2 : Nat
 ops2 : Array Oper
 om : Oper
 df : Oper
 t : Nat
 k : Nat
 id3 : Nat
 ops3 : Array Oper
def lH : Code → Option DSh
 | .seq c1 (.seq (.region id2 ops2 false) (.seq (.region id3 ops3 false) .ret)) => match ops2.toList with
  | [mk, df] => match mk.dst, mk.op, mk.guard, df.dst, df.op, df.guard with
   | some t, .makeFunc (.func k) first _, none, none, .defer ⟨.value (.tmp t'), args, _⟩, none => if t = t' ∧ first = #[] ∧ args = #[] then some ⟨c1, id2, ops2, mk, df, t, k, id3, ops3⟩ else none
   | _, _, _, _, _, _ => none
  | _ => none
 | _ => none
theorem Lr {c : Code} {s : DSh} (h : lH c = some s) : c = .seq s.c1 (.seq (.region s.id2 s.ops2 false) (.seq (.region s.id3 s.ops3 false) .ret)) ∧ s.ops2.toList = [s.om, s.df] ∧ s.om.dst = some s.t ∧
 (∃ cap, s.om.op = .makeFunc (.func s.k) #[] cap) ∧ s.om.guard = none ∧ s.df.dst = none ∧ (∃ ats, s.df.op = .defer ⟨.value (.tmp s.t), #[], ats⟩) ∧ s.df.guard = none := by
 unfold lH at h
 split at h
 ·split at h
  ·rename_i hl
   split at h
   ·rename_i h1 h2 h3 h4 h5 h6
    split at h
    ·rename_i hc
     obtain ⟨rfl, rfl, rfl⟩ := hc;cases h;exact ⟨rfl, hl, h1, ⟨_, h2⟩, h3, h4, ⟨_, h5⟩, h6⟩
    ·cases h
   ·cases h
  ·cases h
 ·cases h
def wn (P : Program) (k : Nat) : Prop :=
 (∃ fn, P.funcs[k]? = some fn ∧ fn.body.isSome = true ∧ fn.name ≠ "runtime.NumGoroutine") ∧
 ∀ (args : Array Value) (w : World), CallsD P k args .returning w fun e u' w' => (∃ v, e = .returned v) ∧ u' = .returning ∧ w' = w
noncomputable def pR (P : Program) (G : List Nat) (call : bE) (n : Nat) (rs : List ResultVar) (s : DSh) (args : List Value) (H : AH) : Option (Value × AH) :=
 (be P G call s.c1 (args ++ List.replicate (n - args.length) undef) H).bind fun r => match r.1 with
  | .normal => if r.2.1.length ≤ s.t then none else (gS P G call s.ops2 s.om r.2.1 r.2.2).bind fun q => (dm P G call s.ops3 s.ops3.toList q.1 q.2).bind fun z => (jv P z.1 z.2 rs).map (·, z.2)
  | _ => none
noncomputable def fZ (P : Program) (G : List Nat) : Nat → bE
 | 0 => fun _ _ _ => none
 | d + 1 => fun f args H => match P.funcs[f]? with
  | some fn => if fn.name = "runtime.NumGoroutine" then none else match fn.body with
   | some c => match lH c with
    | none => qy P G (fZ P G d) fn.ntmps fn.results.toList c args H
    | some s => Lm (wn P s.k) (pR P G (fZ P G d) fn.ntmps fn.results.toList s args H)
   | none => none
  | none => none
section
variable {P : Program} {w0 : World} {B : Nat} {ρ : bQ} {H : AH} {w : World} {G : List Nat} {call : bE}
theorem PT {A : List Value} {a : Act} (hA : cC P ρ A a) (hR : Rel P w0 B ρ H w) {r : ResultVar} {v : Value} (h : lZ P A H r = some v) :
 ∃ v', (match r with | .tmp t => pure (a.tmps.getD t undef) | .cell x t => do loadVar t (← asAddr (a.tmps.getD x undef)) : Sem Value).run P w = .ok v' w ∧ VRel P ρ v v' := by
 have slot : ∀ t, VRel P ρ (A[t]?.getD undef) (a.tmps.getD t undef) := fun t => y9 (G := []) hA (fun g hg => by simp at hg) (x := .tmp t) rfl
 cases r with
 | tmp t => simp only [lZ] at h; cases h; exact ⟨_, rfl, slot t⟩
 | cell x t =>
  simp only [lZ] at h;obtain ⟨g, hg, h⟩ := aI.1 h
  cases g with
  | none =>
   obtain ⟨a', y', ha, hr, hv⟩ := aaI hR h (slot x);refine ⟨y', ?_, hv⟩;simp only [ha];simp [asAddr, loadVar, pS hg]
   simpa using hr
  | some n =>
   obtain ⟨a', ys, ha, hr, hv⟩ := Me hR h (slot x);obtain ⟨hag, hsz⟩ := pT hg w;refine ⟨.agg ys, ?_, hv⟩;simp only [ha];simp [asAddr, loadVar, hag, de hsz, hr]
theorem aaM {A : List Value} {a : Act} (hA : cC P ρ A a) (hR : Rel P w0 B ρ H w) : ∀ {rs : List ResultVar} {vs : List Value}, uh P A H rs = some vs →
 ∃ vs', (rs.mapM (fun r => (match r with | .tmp t => pure (a.tmps.getD t undef) | .cell x t => do loadVar t (← asAddr (a.tmps.getD x undef)) : Sem Value))).run P w = .ok vs' w ∧ LRel P ρ vs vs' := by
 intro rs
 induction rs with
 | nil => intro vs h; simp only [uh] at h; cases h; exact ⟨[], rfl, LRel.nil⟩
 | cons r rs ih =>
  intro vs h;simp only [uh] at h;obtain ⟨v, hv, h⟩ := aI.1 h;obtain ⟨vs0, hvs, h⟩ := aI.1 h;cases h;obtain ⟨v', hr, hv'⟩ := PT hA hR hv;obtain ⟨vs', hrs, hvs'⟩ := ih hvs;refine ⟨v' :: vs', ?_, hvs'.cons hv'⟩;rw [List.mapM_cons];simp only [Sem.run_bind, hr, Result.andThen_ok, hrs, Sem.run_pure]
theorem AN {A : List Value} {a : Act} (hA : cC P ρ A a) (hR : Rel P w0 B ρ H w) {fn : Func} {v : Value} (h : jv P A H fn.results.toList = some v) :
 ∃ v', (results fn a.tmps).run P w = .ok v' w ∧ VRel P ρ v v' := by
 unfold jv at h;obtain ⟨vs, hvs, e⟩ := bm.1 h;obtain ⟨vs', hrun, hl⟩ := aaM hA hR hvs
 have hm : ∀ g : ResultVar → Sem Value, (fn.results.mapM g).run P w = ((fn.results.toList.mapM g >>= fun l => pure l.toArray : Sem (Array Value))).run P w := by
  intro g;rw [Array.mapM_eq_mapM_toList]
  rfl
 have h2 : (results fn a.tmps).run P w = .ok (if h : vs'.toArray.size = 1 then vs'.toArray[0] else .tuple vs'.toArray) w := by
  unfold results;rw [Sem.run_bind, hm, Sem.run_bind]
  erw [hrun]
  rfl
 refine ⟨_, h2, ?_⟩;have hlen := hl.1
 split at e
 ·rename_i x
  subst e
  match vs', hlen, hl with
  | [y], _, hl => simpa using hl.2 0 _ _ rfl rfl
 ·rename_i hne
  subst e
  have : ¬ vs'.toArray.size = 1 := by
   intro h1
   match vs, hlen, hne with
   | [x], _, hne => exact hne x rfl
   | [], hlen, _ => simp at hlen h1; omega
   | x :: y :: zs, hlen, _ => simp at hlen h1; omega
  rw [dif_neg this];exact .tuple (by simp [hlen]) (fun i x y hx hy => hl.2 i x y (by simpa using hx) (by simpa using hy))
theorem Pc (hcall : mI P G call) {ops : Array Oper} (ds : List Deferred) {Q : Exit → Act → World → Prop} : ∀ (l : List Oper) {ρ : bQ} {A : List Value} {H : AH} {a : Act} {w : World} {A' : List Value} {H' : AH}, dm P G call ops l A H = some (A', H') →
 cC P ρ A a → GlobRel ρ G → Rel P w0 B ρ H w → (∀ a' w', CE P w0 B G ρ H w A' H' a' w' → Q .normal { a' with defers := ds } w') → wpList P ops Q l { a with defers := ds } w := by
 intro l
 induction l with
 | nil =>
  intro ρ A H a w A' H' h hA hG hR hQ;simp only [dm] at h;cases h;exact hQ a w ⟨ρ, hA, hG, jr.refl _ _ _, hR⟩
 | cons o rest ih =>
  intro ρ A H a w A' H' h hA hG hR hQ;simp only [dm] at h;obtain ⟨⟨A1, H1⟩, hs, h⟩ := aI.1 h;simp only at h;unfold gS at hs
  split at hs
  ·rename_i hok
   unfold wpList;have hwr := wl hA ops o;rw [show Region.wanted o (yielded ops ({ a with defers := ds } : Act).tmps) = Region.wanted o (dN ops A) from hwr]
   split at hs
   ·rename_i hw
    rw [if_pos hw];obtain ⟨⟨v, H2⟩, ho, e⟩ := bm.1 hs;cases e;have hr := xH hcall hA hG hR hok ho;refine .inl (fJ.wp (a := { a with defers := ds }) (fJ.congr hr rfl) (fun v' w' hv => ?_));obtain ⟨ρ', hv, hE, hR'⟩ := hv;have := ih (a := a.put o.dst v') h (kY (hA.mono hE.le) o.dst hv) (hG.mono hE.le) hR' (fun a' w'' hp => hQ a' w'' (hp.trans hR hE))
    have e : ({ a.put o.dst v' with defers := ds } : Act) = ({ a with defers := ds } : Act).put o.dst v' := by cases o.dst <;> rfl
    rw [e] at this;exact this
   ·rename_i hw
    rw [if_neg hw];cases hs;have := ih (a := a.put o.dst undef) h (kY hA o.dst VRel.undef) hG hR hQ
    have e : ({ a.put o.dst undef with defers := ds } : Act) = ({ a with defers := ds } : Act).put o.dst undef := by cases o.dst <;> rfl
    rw [e] at this;exact this
  ·cases hs
theorem Lq (hcall : mI P G call) (hmono : iN call) (hm : P.follows .mixedOrders = true) {f : Nat} {fn : Func} {c : Code} {s : DSh} (hf : P.funcs[f]? = some fn) (hb : fn.body = some c) (hd : lH c = some s)
 {args : List Value} {args' : Array Value} {v : Value} {H' : AH} (h : Lm (wn P s.k) (pR P G call fn.ntmps fn.results.toList s args H) = some (v, H'))
 (hA : cC P ρ (args ++ List.replicate (fn.ntmps - args.length) undef) { tmps := args' ++ Array.replicate (fn.ntmps - args'.size) undef, defers := [] }) (hG : GlobRel ρ G) (hR : Rel P w0 B ρ H w) :
 Calls P f args' w fun e w' => ∃ v' ρ', e = .returned v' ∧ VRel P ρ' v v' ∧ jr ρ H w ρ' H' w' ∧ Rel P w0 B ρ' H' w' := by
 obtain ⟨⟨⟨fk, hfk, hbk, hnk⟩, hcd⟩, h⟩ := o5 h;obtain ⟨hc, hl2, hdst, ⟨cap, hop⟩, hg, hdd, ⟨ats, hdo⟩, hdg⟩ := Lr hd;unfold pR at h;obtain ⟨⟨e1, A1, H1⟩, h1, h⟩ := aI.1 h
 cases e1 with
 | exit i => cases h
 | ret => cases h
 | normal =>
  simp only at h
  split at h
  ·cases h
  rename_i hlt
  obtain ⟨⟨A2, H2⟩, h2, h⟩ := aI.1 h;obtain ⟨⟨A3, H3⟩, h3, h⟩ := aI.1 h;obtain ⟨x, hx, e⟩ := bm.1 h;cases e;refine calls_of_wp_defers hf hb ?_;rw [hc];refine wp_seq (Dd hcall hmono hm s.c1 h1 hA hG hR (fun a1 w1 hp => ?_));obtain ⟨ρ1, hA1, hG1, hE1, hR1⟩ := hp;refine wp_seq (wp_region_list ?_);rw [hl2];have hd1 : a1.defers = [] := hA1.defers;unfold gS at h2
  split at h2
  ·rename_i hok
   have hwt : Region.wanted s.om (dN s.ops2 A1) = true := by simp [Region.wanted, hg]
   rw [if_pos hwt] at h2;obtain ⟨⟨y, H2'⟩, ho, e⟩ := bm.1 h2;cases e;refine wpList_plain hg (fun K hK => fJ.wp (xH hcall hA1 hG1 hR1 hok ho) (fun v' w2 hv => hK _ _ ?_));obtain ⟨ρ2, hv, hE2, hR2⟩ := hv
   have hy : y = .func (.func s.k) #[] (cap.map (f8 A1)) := by
    unfold ft at ho;rw [hop] at ho;simp at ho;exact ho.1.symm
   rw [hy] at hv;obtain ⟨f', c', rfl, hf', _⟩ := hv.func_inv
   have hf0 : f' = #[] := by
    have := hf'.1;simp at this;exact Array.eq_empty_of_size_eq_zero (by simpa using this.symm)
   subst hf0;refine wpList_plain hdg (fun K' hK' => ?_)
   have ht : (a1.put s.om.dst (.func (.func s.k) #[] c')).eval (.tmp s.t) = .func (.func s.k) #[] c' := by
    have hsz : s.t < a1.tmps.size := by have := hA1.tmps.1; simp at this; omega
    rw [hdst];simp [Act.put, Act.eval, hsz, Array.getD]
   have hrun : (execOp (a1.put s.om.dst (.func (.func s.k) #[] c')).eval s.df).run P w2 = .ok (.defer { target := .fn (.func s.k) c', args := #[] }) w2 := by
    simp [execOp, hdo, resolve, ht, Deferred.ofValue]
   unfold Oper.wp;rw [hrun, Oper.upon_defer];refine hK' _ _ (wpList_nil ?_);rw [hdd];have hA2 := kY (hA1.mono hE2.le) s.om.dst hv
   have hpd : ∀ (a : Act) (d : Option Tmp) (x : Value), (a.put d x).defers = a.defers := by intro a d x; cases d <;> rfl
   have e : ({ a1.put s.om.dst (.func (.func s.k) #[] c') with defers := { target := .fn (.func s.k) c', args := #[] } :: (a1.put s.om.dst (.func (.func s.k) #[] c')).defers } : Act).put none undef
    = { a1.put s.om.dst (.func (.func s.k) #[] c') with defers := [{ target := .fn (.func s.k) c', args := #[] }] } := by
    rw [hpd, hd1]; rfl
   rw [e];show (Code.seq (.region s.id3 s.ops3 false) .ret).wp P _ _ _;rw [hy] at h3;refine wp_seq (wp_region_list (Pc hcall _ _ h3 hA2 (hG1.mono hE2.le) hR2 (fun a3 w3 hp => ?_)));obtain ⟨ρ3, hA3, hG3, hE3, hR3⟩ := hp;refine wp_ret ?_;obtain ⟨v3, hr3, hv3⟩ := AN hA3 hR3 hx
   have hbn : ¬ (fk.body = none) := by intro hb; rw [hb] at hbk; cases hbk
   refine leaves_cons (f := s.k) (args := c') (by simp) (by simp [invoke, callFunc, hfk, hnk, hbn]) (CallsD.mono (hcd _ _) ?_)
   rintro e' u' w' ⟨⟨v0, rfl⟩, rfl, rfl⟩
   exact ⟨v3, hr3, v3, ρ3, rfl, hv3, hE1.trans hR (hE2.trans hR1 hE3), hR3⟩
  ·cases h2
theorem KU (hm : iN call) {n : Nat} {rs : List ResultVar} {s : DSh} {args : List Value} {v : Value} {H' : AH} (h : pR P G call n rs s args H = some (v, H')) : H.size ≤ H'.size := by
 unfold pR at h;obtain ⟨⟨e1, A1, H1⟩, h1, h⟩ := aI.1 h
 cases e1 with
 | exit i => cases h
 | ret => cases h
 | normal =>
  simp only at h
  split at h
  ·cases h
  obtain ⟨⟨A2, H2⟩, h2, h⟩ := aI.1 h;obtain ⟨⟨A3, H3⟩, h3, h⟩ := aI.1 h;obtain ⟨x, hx, e⟩ := bm.1 h;cases e;have g1 := CH hm _ h1;have g2 : H1.size ≤ H2.size := tm (P := P) (G := G) (call := call) hm [s.om] (ops := s.ops2) (A := A1) (H := H1) (r := (A2, H2)) (by simp [dm, h2]);have g3 := tm hm _ h3;simp only at g1 g3;exact fy g1 (fy g2 g3)
theorem Da (hm : P.follows .mixedOrders = true) : ∀ d, mI P G (fZ P G d) ∧ iN (fZ P G d) := by
 intro d
 induction d with
 | zero => exact ⟨fun f args H v H' h => (by cases h), fun f args H v H' h => (by cases h)⟩
 | succ d ih =>
  constructor
  ·intro f args H v H' h
   simp only [fZ] at h
   cases hf : P.funcs[f]? with
   | none => rw [hf] at h; cases h
   | some fn =>
    rw [hf] at h;simp only at h
    split at h
    ·cases h
    ·rename_i hname
     cases hb : fn.body with
     | none => rw [hb] at h; cases h
     | some c =>
      rw [hb] at h;simp only at h;refine ⟨⟨fn, rfl, by rw [hb]; rfl, hname⟩, fun w0 B ρ w args' hR hG hargs => ?_⟩
      have hA : cC P ρ (args ++ List.replicate (fn.ntmps - args.length) undef) { tmps := args'.toArray ++ Array.replicate (fn.ntmps - args'.toArray.size) undef, defers := [] } := by
       refine ⟨?_, rfl⟩;simp only [Array.toList_append, Array.toList_replicate, List.size_toArray];rw [hargs.1];refine hargs.append ⟨rfl, fun i x y hx hy => ?_⟩;rw [hx] at hy;cases hy;rw [List.getElem?_replicate] at hx
       split at hx
       ·cases hx; exact VRel.undef
       ·cases hx
      cases hd : lH c with
      | some s => rw [hd] at h; exact Lq ih.1 ih.2 hm hf hb hd h hA hG hR
      | none =>
      rw [hd] at h;simp only [qy] at h;obtain ⟨⟨e, A', H2⟩, hc, h⟩ := aI.1 h;refine calls_of_wp hf hb ?_;refine Dd ih.1 ih.2 hm c hc hA hG hR (fun a' w' hp => ?_);obtain ⟨ρ', hA', hG', hE, hR'⟩ := hp
      have fin : ∀ {x : Value} {H3 : AH}, (jv P A' H2 fn.results.toList).map (·, H2) = some (x, H3) → a'.defers = [] ∧ ∃ v', (results fn a'.tmps).run P w' = .ok v' w' ∧ ∃ v'' ρ'', Ending.returned v' = .returned v'' ∧ VRel P ρ'' x v'' ∧ jr ρ H w ρ'' H3 w' ∧ Rel P w0 B ρ'' H3 w' := by
       intro x H3 hx;obtain ⟨y, hy, e⟩ := bm.1 hx;cases e;obtain ⟨v', hr, hv⟩ := AN hA' hR' hy;exact ⟨hA'.defers, v', hr, v', ρ', rfl, hv, hE, hR'⟩
      cases e with
      | normal => exact fin h
      | ret => exact fin h
      | exit i => cases h
  ·intro f args H v H' h
   simp only [fZ] at h
   cases hf : P.funcs[f]? with
   | none => rw [hf] at h; cases h
   | some fn =>
    rw [hf] at h;simp only at h
    split at h
    ·cases h
    ·cases hb : fn.body with
     | none => rw [hb] at h; cases h
     | some c =>
      rw [hb] at h;simp only [qy] at h
      cases hd : lH c with
      | some s =>
       rw [hd] at h;obtain ⟨_, h⟩ := o5 h;exact KU ih.2 h
      | none =>
      rw [hd] at h;simp only at h;obtain ⟨⟨e, A', H2⟩, hc, h⟩ := aI.1 h;have h1 := CH ih.2 c hc;unfold Xn at h
      split at h
      ·cases h
      ·obtain ⟨y, hy, e⟩ := bm.1 h
       cases e; exact h1
end
def Xe (c1 c2 : bE) : Prop := ∀ f args H r, c1 f args H = some r → c2 f args H = some r
section
variable {P : Program} {G : List Nat} {c1 c2 : bE}
theorem aiX (h : Xe c1 c2) {ev : Operand → Value} {o : Oper} {H : AH} {r : Value × AH} (hr : ft P c1 ev o H = some r) : ft P c2 ev o H = some r := by
 obtain ⟨dst, op, type, pos, after, guard⟩ := o
 cases op with
 | call c =>
  obtain ⟨callee, args, ats⟩ := c
  cases callee with
  | value f =>
   simp only [ft] at hr ⊢;obtain ⟨x, hx, hr⟩ := aI.1 hr;rw [hx];exact h _ _ _ _ hr
  | invoke r m => exact hr
  | builtin b => exact hr
 | makeMap t r => cases r <;> exact hr
 | slice t x lo hi mx => cases lo <;> cases hi <;> cases mx <;> exact hr
 | _ => exact hr
theorem CO (h : Xe c1 c2) {ops : Array Oper} {o : Oper} {A : List Value} {H : AH} {r : List Value × AH} (hr : gS P G c1 ops o A H = some r) : gS P G c2 ops o A H = some r := by
 unfold gS at hr ⊢
 split at hr
 ·rename_i hok
  rw [if_pos hok]
  split at hr
  ·rename_i hw
   rw [if_pos hw];obtain ⟨x, hx, e⟩ := bm.1 hr;rw [aiX h hx];exact congrArg some e
  ·rename_i hw
   rw [if_neg hw];exact hr
 ·cases hr
theorem tl (h : Xe c1 c2) {ops : Array Oper} : ∀ (l : List Oper) {A : List Value} {H : AH} {r : List Value × AH}, dm P G c1 ops l A H = some r → dm P G c2 ops l A H = some r := by
 intro l
 induction l with
 | nil => intro A H r hr; exact hr
 | cons o l ih =>
  intro A H r hr;simp only [dm] at hr ⊢;obtain ⟨s, hs, hr⟩ := aI.1 hr;rw [CO h hs];exact ih hr
theorem acI (h : Xe c1 c2) {ops : Array Oper} {A : List Value} {H : AH} {r : List Value × AH} (hr : dm P G c1 ops ops.toList A H = some r) : km P G c2 ops A H = km P G c1 ops A H := by
 funext i
 have h1 := tl h _ (yN hr i);unfold km at h1 ⊢;rw [h1]; rfl
theorem Xm (h : Xe c1 c2) {ops : Array Oper} {A : List Value} {H : AH} {r : List Value × AH} (hr : nM P G c1 ops A H = some r) : nM P G c2 ops A H = some r := by
 obtain ⟨h1, h2, h3⟩ := gR hr;unfold nM;rw [h1];simp only
 cases h4 : ee ops.toList with
 | nil => exact tl h _ h3
 | cons p ps =>
  simp only;rw [lh ?_]
  ·exact tl h _ h3
  ·rw [acI h h3, ← h4]; exact h2
theorem oZ (h : Xe c1 c2) : ∀ (c : Code) {A : List Value} {H : AH} {r : AR}, be P G c1 c A H = some r → be P G c2 c A H = some r := by
 intro c
 induction c with
 | region id ops draw =>
  intro A H r hr;simp only [be] at hr ⊢;obtain ⟨s, hs, e1⟩ := bm.1 hr
  have : gF P G c2 ops draw A H = some s := by
   cases draw with
   | true => exact Xm h hs
   | false => exact tl h _ hs
  rw [this]; exact congrArg some e1
 | seq x y ihx ihy =>
  intro A H r hr;simp only [be] at hr ⊢;obtain ⟨s, hx, hr⟩ := aI.1 hr;rw [ihx hx];simp only [bL]
  split at hr
  ·exact ihy hr
  ·exact hr
 | cond c x y ihx ihy =>
  intro A H r hr;simp only [be] at hr ⊢
  split at hr
  ·exact ihx hr
  ·exact ihy hr
  ·cases hr
 | block id x ih =>
  intro A H r hr;simp only [be] at hr ⊢;obtain ⟨s, hx, e2⟩ := bm.1 hr;rw [ih hx]; exact congrArg some e2
 | loop x ih =>
  intro A H r hr;simp only [be] at hr ⊢;obtain ⟨n, hn⟩ := dl.1 hr;refine dl.2 ⟨n, ?_⟩
  clear hr
  induction n generalizing A H with
  | zero => cases hn
  | succ n ihn =>
   simp only [fK] at hn ⊢;obtain ⟨s, hx, hr⟩ := aI.1 hn;rw [ih hx];simp only [bL]
   split at hr
   ·exact ihn hr
   ·exact hr
 | _ => intro A H r hr; exact hr
theorem Xl (h : Xe c1 c2) {n : Nat} {rs : List ResultVar} {c : Code} {args : List Value} {H : AH} {r : Value × AH} (hr : qy P G c1 n rs c args H = some r) : qy P G c2 n rs c args H = some r := by
 unfold qy at hr ⊢;obtain ⟨s, hs, hr⟩ := aI.1 hr;rw [oZ h _ hs];exact hr
theorem TJ (h : Xe c1 c2) {n : Nat} {rs : List ResultVar} {s : DSh} {args : List Value} {H : AH} {r : Value × AH} (hr : pR P G c1 n rs s args H = some r) : pR P G c2 n rs s args H = some r := by
 unfold pR at hr ⊢;obtain ⟨⟨e1, A1, H1⟩, h1, hr⟩ := aI.1 hr;rw [oZ h _ h1];simp only [bL]
 cases e1 with
 | exit i => exact hr
 | ret => exact hr
 | normal =>
  simp only at hr ⊢
  split at hr
  ·cases hr
  rename_i hlt
  rw [if_neg hlt];obtain ⟨q, h2, hr⟩ := aI.1 hr;obtain ⟨z, h3, hr⟩ := aI.1 hr;rw [CO h h2];simp only [bL];rw [tl h _ h3];exact hr
theorem Nt : ∀ d, Xe (fZ P G d) (fZ P G (d + 1)) := by
 intro d
 induction d with
 | zero => intro f args H r h; cases h
 | succ d ih =>
  intro f args H r h;rw [fZ] at h ⊢;simp only [] at h ⊢
  cases hf : P.funcs[f]? with
  | none => rw [hf] at h; cases h
  | some fn =>
   rw [hf] at h;simp only at h ⊢
   split at h
   ·cases h
   ·rename_i hn
    rw [if_neg hn]
    cases hb : fn.body with
    | none => rw [hb] at h; cases h
    | some c =>
     rw [hb] at h;simp only at h ⊢
     cases hd : lH c with
     | none => rw [hd] at h; exact Xl ih h
     | some s =>
      rw [hd] at h;obtain ⟨h1, h2⟩ := o5 h;simp only;rw [lh h1];exact TJ ih h2
theorem lc {d e : Nat} (h : d ≤ e) : Xe (fZ P G d) (fZ P G e) := by
 induction e with
 | zero => rw [show d = 0 from by omega]; exact fun _ _ _ _ h => h
 | succ e ih =>
  by_cases hd : d = e + 1
  ·rw [hd]; exact fun _ _ _ _ h => h
  ·exact fun f args H r hr => Nt e f args H r (ih (by omega) f args H r hr)
open Classical in
noncomputable def aF (P : Program) (G : List Nat) : bE := fun f args H => if h : ∃ d r, fZ P G d f args H = some r then some h.choose_spec.choose else none
theorem CI {f : Nat} {args : List Value} {H : AH} {r : Value × AH} : aF P G f args H = some r ↔ ∃ d, fZ P G d f args H = some r := by
 unfold aF
 constructor
 ·intro h
  split at h
  ·rename_i hx
   cases h;exact ⟨_, hx.choose_spec.choose_spec⟩
  ·cases h
 ·rintro ⟨n, hn⟩
  have hx : ∃ d r, fZ P G d f args H = some r := ⟨n, r, hn⟩;rw [dif_pos hx];have h1 := lc (Nat.le_max_right n hx.choose) _ _ _ _ hx.choose_spec.choose_spec;have h2 := lc (Nat.le_max_left n hx.choose) _ _ _ _ hn;rw [h2] at h1;exact h1.symm
theorem akY (hm : P.follows .mixedOrders = true) : mI P G (aF P G) ∧ iN (aF P G) := by
 constructor
 ·intro f args H v H' h
  obtain ⟨d, hd⟩ := CI.1 h;exact (Da hm d).1 f args H v H' hd
 ·intro f args H v H' h
  obtain ⟨d, hd⟩ := CI.1 h;exact (Da hm d).2 f args H v H' hd
theorem ad4 {ev : Operand → Value} {o : Oper} {H : AH} {r : Value × AH} (h : ft P (aF P G) ev o H = some r) : ∃ d, ft P (fZ P G d) ev o H = some r := by
 obtain ⟨dst, op, type, pos, after, guard⟩ := o
 cases op with
 | call c =>
  obtain ⟨callee, args, ats⟩ := c
  cases callee with
  | value f =>
   simp only [ft] at h ⊢;obtain ⟨x, hx, h⟩ := aI.1 h;obtain ⟨d, hd⟩ := CI.1 h;exact ⟨d, by rw [hx]; exact hd⟩
  | invoke r m => exact ⟨0, h⟩
  | builtin b => exact ⟨0, h⟩
 | makeMap t r => cases r <;> exact ⟨0, h⟩
 | slice t x lo hi mx => cases lo <;> cases hi <;> cases mx <;> exact ⟨0, h⟩
 | _ => exact ⟨0, h⟩
theorem KW {ops : Array Oper} : ∀ (l : List Oper) {A : List Value} {H : AH} {r : List Value × AH}, dm P G (aF P G) ops l A H = some r → ∃ d, dm P G (fZ P G d) ops l A H = some r := by
 intro l
 induction l with
 | nil => intro A H r hr; exact ⟨0, hr⟩
 | cons o l ih =>
  intro A H r hr;simp only [dm] at hr ⊢;obtain ⟨s, hs, hr⟩ := aI.1 hr;obtain ⟨d2, h2⟩ := ih hr
  have h1 : ∃ d, gS P G (fZ P G d) ops o A H = some s := by
   unfold gS at hs ⊢
   split at hs
   ·rename_i hok
    split at hs
    ·rename_i hw
     obtain ⟨x, hx, e⟩ := bm.1 hs;obtain ⟨d, hd⟩ := ad4 hx;exact ⟨d, by rw [if_pos hok, if_pos hw, hd]; exact congrArg some e⟩
    ·rename_i hw
     exact ⟨0, by rw [if_pos hok, if_neg hw]; exact hs⟩
   ·cases hs
  obtain ⟨d1, h1⟩ := h1;refine ⟨max d1 d2, ?_⟩;rw [CO (lc (Nat.le_max_left ..)) h1];exact tl (lc (Nat.le_max_right ..)) _ h2
theorem Qr (d : Nat) : Xe (fZ P G d) (aF P G) := fun _ _ _ _ h => CI.2 ⟨d, h⟩
theorem KY {ops : Array Oper} {draw : Bool} {A : List Value} {H : AH} {r : List Value × AH} (h : gF P G (aF P G) ops draw A H = some r) : ∃ d, gF P G (fZ P G d) ops draw A H = some r := by
 cases draw with
 | false => exact KW _ h
 | true =>
  simp only [gF] at h ⊢;obtain ⟨h1, h2, h3⟩ := gR h;obtain ⟨d, hd⟩ := KW _ h3;refine ⟨d, ?_⟩;unfold nM;rw [h1];simp only
  cases h4 : ee ops.toList with
  | nil => exact hd
  | cons p ps =>
   simp only;rw [lh ?_]
   ·exact hd
   ·rw [← acI (Qr d) hd, ← h4]; exact h2
theorem TI : ∀ (c : Code) {A : List Value} {H : AH} {r : AR}, be P G (aF P G) c A H = some r → ∃ d, be P G (fZ P G d) c A H = some r := by
 intro c
 induction c with
 | region id ops draw =>
  intro A H r hr;simp only [be] at hr ⊢;obtain ⟨s, hs, e1⟩ := bm.1 hr;obtain ⟨d, hd⟩ := KY hs;exact ⟨d, by rw [hd]; exact congrArg some e1⟩
 | seq x y ihx ihy =>
  intro A H r hr;simp only [be] at hr ⊢;obtain ⟨s, hx, hr⟩ := aI.1 hr;obtain ⟨d1, h1⟩ := ihx hx
  split at hr
  ·rename_i e
   obtain ⟨d2, h2⟩ := ihy hr;refine ⟨max d1 d2, ?_⟩;rw [oZ (lc (Nat.le_max_left ..)) _ h1];simp only [bL, e];exact oZ (lc (Nat.le_max_right ..)) _ h2
  ·refine ⟨d1, ?_⟩
   rw [h1];simp only [bL];exact hr
 | cond c x y ihx ihy =>
  intro A H r hr;simp only [be] at hr ⊢
  split at hr
  ·exact ihx hr
  ·exact ihy hr
  ·cases hr
 | block id x ih =>
  intro A H r hr;simp only [be] at hr ⊢;obtain ⟨s, hx, e2⟩ := bm.1 hr;obtain ⟨d, hd⟩ := ih hx;exact ⟨d, by rw [hd]; exact congrArg some e2⟩
 | loop x ih =>
  intro A H r hr;simp only [be] at hr ⊢;obtain ⟨n, hn⟩ := dl.1 hr
  have key : ∃ d, fK (be P G (fZ P G d) x) n A H = some r := by
   clear hr
   induction n generalizing A H with
   | zero => cases hn
   | succ n ihn =>
    simp only [fK] at hn ⊢;obtain ⟨s, hx, hr⟩ := aI.1 hn;obtain ⟨d1, h1⟩ := ih hx
    split at hr
    ·rename_i e
     obtain ⟨d2, h2⟩ := ihn hr;refine ⟨max d1 d2, ?_⟩;rw [oZ (lc (Nat.le_max_left ..)) _ h1];simp only [bL, e]
     have key2 : ∀ (n : Nat) {A : List Value} {H : AH} {r : AR}, fK (be P G (fZ P G d2) x) n A H = some r → fK (be P G (fZ P G (max d1 d2)) x) n A H = some r := by
      intro n
      induction n with
      | zero => intro A H r h; cases h
      | succ n ih2 =>
       intro A H r h;simp only [fK] at h ⊢;obtain ⟨s, hx, hr⟩ := aI.1 h;rw [oZ (lc (Nat.le_max_right d1 d2)) _ hx];simp only [bL]
       split at hr
       ·exact ih2 hr
       ·exact hr
     exact key2 n h2
    ·refine ⟨d1, ?_⟩
     rw [h1];simp only [bL];exact hr
  obtain ⟨d, hd⟩ := key;exact ⟨d, dl.2 ⟨n, hd⟩⟩
 | _ => intro A H r hr; exact ⟨0, hr⟩
theorem akX {f : Nat} {fn : Func} {c : Code} (hf : P.funcs[f]? = some fn) (hb : fn.body = some c) (hn : fn.name ≠ "runtime.NumGoroutine") (hds : lH c = none) {args : List Value} {H : AH} {r : Value × AH}
 (h : qy P G (aF P G) fn.ntmps fn.results.toList c args H = some r) : aF P G f args H = some r := by
 unfold qy at h;obtain ⟨s, hs, h⟩ := aI.1 h;obtain ⟨d, hd⟩ := TI _ hs;refine CI.2 ⟨d + 1, ?_⟩;simp only [fZ, hf, hb, if_neg hn, hds, qy, hd, bL];exact h
end
section
variable {R : Type}
abbrev tb {α β : Type} (x : Option α) (f : α → Option β) : Option β :=
 match x with
 | some a => f a
 | none => none
theorem M5 {α β : Type} (x : Option α) (f : α → Option β) : tb x f = x.bind f := by cases x <;> rfl
abbrev ia (P : Program) (b : Builtin) (argTypes : Array TypeId) (args : List Value) (H : AH) (k : Value → AH → Option R) : Option R :=
 match b, args with
 | .len, [x] => match (argTypes[0]?).bind fun t => P.underlying t with
  | some (.slice _) => match x with | .slice _ n _ => k (.int .i64 n) H | _ => none
  | some .string => match x with | .string s => k (.int .i64 s.size) H | _ => none
  | some (.map _ _) => (n9 x H).bind fun v => k v H
  | _ => none
 | .max, args => (iv args).bind fun v => k v H
 | .min, args => (jT args).bind fun v => k v H
 | .append, [s, x] => (argTypes[0]?).bind fun t => (cJ P t).bind fun el => (cR P el).bind fun e => (gl P el).bind fun by' => (bW P el).bind fun z =>
  if z.cells.size = e ∧ (argTypes[1]?).bind (fun u => cJ P u) = some el then (fj e by' s x H).bind fun r => k r.1 r.2 else none
 | .delete, [m, key] => (argTypes[0]?).bind fun t => (cM P t).bind fun kt => (cZ P kt.1).bind fun fl => (n7 fl m key H).bind fun H' => k (.tuple #[]) H'
 | _, _ => none
abbrev rh (P : Program) (call : bE) (ev : Operand → Value) (o : Oper) (H : AH) (k : Value → AH → Option R) : Option R :=
 match o.op with
 | .move x => k (ev x) H
 | .assign x => k (ev x) H
 | .pick c a b => (aV (ev c) (ev a) (ev b)).bind fun v => k v H
 | .alloc t => (bW P t).bind fun z => k (.pointer (some ⟨H.size, 0, none⟩)) (H.push (.cells false z.cells.toList))
 | .box _ x => k (.pointer (some ⟨H.size, 0, none⟩)) (H.push (.cells false (ev x).cells.toList))
 | .build t parts => match P.underlying t with
  | some (.struct fs) => (bW P t).bind fun z => (jV P fs.toList).bind fun ps => (dt (ps[·]?) z.cells.toList (parts.toList.map fun p => (p.1, ev p.2))).bind fun cs => k (.agg cs.toArray) H
  | some (.array _ el) => (bW P t).bind fun z => (cR P el).bind fun e => (dt (fun i => some (i * e, e)) z.cells.toList (parts.toList.map fun p => (p.1, ev p.2))).bind fun cs => k (.agg cs.toArray) H
  | _ => none
 | .buildSlice t len parts => (cJ P t).bind fun el => (cR P el).bind fun e => (bW P el).bind fun z =>
  if 0 < e ∧ z.cells.size = e ∧ len * e ≤ 2 ^ 24 then
   (dt (fun i => some (i * e, e)) (List.replicate len z.cells.toList).flatten (parts.toList.map fun p => (p.1, ev p.2))).bind fun cs => k (.slice (some ⟨H.size, 0, none⟩) len e) (H.push (.cells false cs))
  else none
 | .load t a => (f6 P t).bind fun g => match g with
  | some n => (ay n (ev a) H).bind fun v => k v H
  | none => (ar (ev a) H).bind fun v => k v H
 | .store t a x => (cR P t).bind fun n => (cf n (ev a) (ev x) H).bind fun H' => k undef H'
 | .nilCheck x => (vC (ev x)).bind fun v => k v H
 | .binOp op t x y _ => (ap (Ao P t) op (ev x) (ev y)).bind fun v => k v H
 | .unOp op _ x => (nk op (ev x)).bind fun v => k v H
 | .convert src dst x => match P.underlying src with
  | some _ => (cN (sd P dst) (ev x)).bind fun v => k v H
  | none => none
 | .makeFunc fn first captured => k (.func fn (first.map ev) (captured.map ev)) H
 | .makeMap _ none => k (.map (some H.size)) (H.push (.map [] 0))
 | .makeSlice t l c => (cJ P t).bind fun el => (cR P el).bind fun e => (gl P el).bind fun by' => (bW P el).bind fun z => (oa z.cells.toList e by' (ev l) (ev c) H).bind fun r => k r.1 r.2
 | .slice t x lo hi none => (cJ P t).bind fun el => (cR P el).bind fun e => (dT e (ev x) (lo.map ev) (hi.map ev)).bind fun v => k v H
 | .slice t x none (some hi) (some mx) => (cJ P t).bind fun el => (cR P el).bind fun _ => (jU (ev x) (ev hi) (ev mx)).bind fun v => k v H
 | .fieldAddr s x f => (kS P s f).bind fun f => (cR P f.type).bind fun n => if n = 0 then none else (Gk f.offset (ev x)).bind fun v => k v H
 | .field s x f => (kS P s f).bind fun f => (f6 P f.type).bind fun n => (lA n f.offset (ev x)).bind fun v => k v H
 | .indexAddr t x i => match P.underlying t with
  | some (.slice el) => (cR P el).bind fun e => (pF e (ev x) (ev i)).bind fun v => k v H
  | some (.array len el) => (cR P el).bind fun e => (ka len e (ev x) (ev i)).bind fun v => k v H
  | _ => none
 | .index t x i => match P.underlying t with
  | some (.array len el) => (cR P el).bind fun e => (f6 P el).bind fun n => (jS len n e (ev x) (ev i)).bind fun v => k v H
  | some .string => (jR (ev x) (ev i)).bind fun v => k v H
  | _ => none
 | .lookup t m key ok => (cM P t).bind fun kt => (cZ P kt.1).bind fun fl => (bW P kt.2).bind fun z => (dc fl z (ev m) (ev key) ok H).bind fun v => k v H
 | .mapUpdate t m key x => (cM P t).bind fun kt => (cZ P kt.1).bind fun fl => (fm fl (ev m) (ev key) (ev x) H).bind fun H' => k undef H'
 | .extract t i => (af (ev t) i).bind fun v => k v H
 | .call c => match c.callee with
  | .builtin b => ia P b c.argTypes (c.args.toList.map ev) H k
  | .value f => (di (ev f) (c.args.toList.map ev)).bind fun fa => (call fa.1 fa.2 H).bind fun r => k r.1 r.2
  | _ => none
 | _ => none
abbrev C9 (P : Program) (b : Builtin) (argTypes : Array TypeId) (args : List Value) (H : AH) (k : Value → AH → Option R) : Option R :=
 match b, args with
 | .len, [x] => match (argTypes[0]?).bind fun t => P.underlying t with
  | some (.slice _) => match x with | .slice _ n _ => k (.int .i64 n) H | _ => none
  | some .string => match x with | .string s => k (.int .i64 s.size) H | _ => none
  | some (.map _ _) => (n9 x H).bind fun v => k v H
  | _ => none
 | .max, args => (iv args).bind fun v => k v H
 | .min, args => (jT args).bind fun v => k v H
 | .append, [s, x] => tb (argTypes[0]?) fun t => tb (cJ P t) fun el => tb (cR P el) fun e => tb (gl P el) fun by' => tb (bW P el) fun z =>
  if z.cells.size = e ∧ (argTypes[1]?).bind (fun u => cJ P u) = some el then (fj e by' s x H).bind fun r => k r.1 r.2 else none
 | .delete, [m, key] => tb (argTypes[0]?) fun t => tb (cM P t) fun kt => tb (cZ P kt.1) fun fl => (n7 fl m key H).bind fun H' => k (.tuple #[]) H'
 | _, _ => none
abbrev cOp (P : Program) (call : bE) (ev : Operand → Value) (o : Oper) (H : AH) (k : Value → AH → Option R) : Option R :=
 match o.op with
 | .move x => k (ev x) H
 | .assign x => k (ev x) H
 | .pick c a b => (aV (ev c) (ev a) (ev b)).bind fun v => k v H
 | .alloc t => tb (bW P t) fun z => k (.pointer (some ⟨H.size, 0, none⟩)) (H.push (.cells false z.cells.toList))
 | .box _ x => k (.pointer (some ⟨H.size, 0, none⟩)) (H.push (.cells false (ev x).cells.toList))
 | .build t parts => match P.underlying t with
  | some (.struct fs) => tb (bW P t) fun z => tb (jV P fs.toList) fun ps => (dt (ps[·]?) z.cells.toList (parts.toList.map fun p => (p.1, ev p.2))).bind fun cs => k (.agg cs.toArray) H
  | some (.array _ el) => tb (bW P t) fun z => tb (cR P el) fun e => (dt (fun i => some (i * e, e)) z.cells.toList (parts.toList.map fun p => (p.1, ev p.2))).bind fun cs => k (.agg cs.toArray) H
  | _ => none
 | .buildSlice t len parts => tb (cJ P t) fun el => tb (cR P el) fun e => tb (bW P el) fun z =>
  if 0 < e ∧ z.cells.size = e ∧ len * e ≤ 2 ^ 24 then
   (dt (fun i => some (i * e, e)) (List.replicate len z.cells.toList).flatten (parts.toList.map fun p => (p.1, ev p.2))).bind fun cs => k (.slice (some ⟨H.size, 0, none⟩) len e) (H.push (.cells false cs))
  else none
 | .load t a => tb (f6 P t) fun g => match g with
  | some n => (ay n (ev a) H).bind fun v => k v H
  | none => (ar (ev a) H).bind fun v => k v H
 | .store t a x => tb (cR P t) fun n => (cf n (ev a) (ev x) H).bind fun H' => k undef H'
 | .nilCheck x => (vC (ev x)).bind fun v => k v H
 | .binOp op t x y _ => (ap (Ao P t) op (ev x) (ev y)).bind fun v => k v H
 | .unOp op _ x => (nk op (ev x)).bind fun v => k v H
 | .convert src dst x => match P.underlying src with
  | some _ => (cN (sd P dst) (ev x)).bind fun v => k v H
  | none => none
 | .makeFunc fn first captured => k (.func fn (first.map ev) (captured.map ev)) H
 | .makeMap _ none => k (.map (some H.size)) (H.push (.map [] 0))
 | .makeSlice t l c => tb (cJ P t) fun el => tb (cR P el) fun e => tb (gl P el) fun by' => tb (bW P el) fun z => (oa z.cells.toList e by' (ev l) (ev c) H).bind fun r => k r.1 r.2
 | .slice t x lo hi none => tb (cJ P t) fun el => tb (cR P el) fun e => (dT e (ev x) (lo.map ev) (hi.map ev)).bind fun v => k v H
 | .slice t x none (some hi) (some mx) => tb (cJ P t) fun el => tb (cR P el) fun _ => (jU (ev x) (ev hi) (ev mx)).bind fun v => k v H
 | .fieldAddr s x f => tb (kS P s f) fun f => tb (cR P f.type) fun n => if n = 0 then none else (Gk f.offset (ev x)).bind fun v => k v H
 | .field s x f => tb (kS P s f) fun f => tb (f6 P f.type) fun n => (lA n f.offset (ev x)).bind fun v => k v H
 | .indexAddr t x i => match P.underlying t with
  | some (.slice el) => tb (cR P el) fun e => (pF e (ev x) (ev i)).bind fun v => k v H
  | some (.array len el) => tb (cR P el) fun e => (ka len e (ev x) (ev i)).bind fun v => k v H
  | _ => none
 | .index t x i => match P.underlying t with
  | some (.array len el) => tb (cR P el) fun e => tb (f6 P el) fun n => (jS len n e (ev x) (ev i)).bind fun v => k v H
  | some .string => (jR (ev x) (ev i)).bind fun v => k v H
  | _ => none
 | .lookup t m key ok => tb (cM P t) fun kt => tb (cZ P kt.1) fun fl => tb (bW P kt.2) fun z => (dc fl z (ev m) (ev key) ok H).bind fun v => k v H
 | .mapUpdate t m key x => tb (cM P t) fun kt => tb (cZ P kt.1) fun fl => (fm fl (ev m) (ev key) (ev x) H).bind fun H' => k undef H'
 | .extract t i => (af (ev t) i).bind fun v => k v H
 | .call c => match c.callee with
  | .builtin b => C9 P b c.argTypes (c.args.toList.map ev) H k
  | .value f => (di (ev f) (c.args.toList.map ev)).bind fun fa => (call fa.1 fa.2 H).bind fun r => k r.1 r.2
  | _ => none
 | _ => none
theorem gX {α β γ : Type} (x : Option α) (b : β) (k : α → β → Option γ) : ((x.map (·, b)).bind fun r => k r.1 r.2) = x.bind fun v => k v b := by cases x <;> rfl
theorem zx {β γ : Type} (x : Option β) (v : Value) (k : Value → β → Option γ) : ((x.map fun H' => (v, H')).bind fun r => k r.1 r.2) = x.bind fun H' => k v H' := by cases x <;> rfl
theorem Ip (P : Program) (b : Builtin) (ts : Array TypeId) (args : List Value) (H : AH) (k : Value → AH → Option R) : ia P b ts args H k = (cY P b ts args H).bind fun r => k r.1 r.2 := by
 cases b with
 | len =>
  match args with
  | [] => rfl
  | [x] =>
   simp only [ia, cY]
   cases (ts[0]?).bind fun t => P.underlying t with
   | none => rfl
   | some d => cases d <;> first | rfl | (cases x <;> rfl) | (simp only [gX])
  | x :: y :: zs => rfl
 | max => simp only [ia, cY, gX]
 | min => simp only [ia, cY, gX]
 | append =>
  match args with
  | [] => rfl
  | [x] => rfl
  | [s, x] =>
   simp only [ia, cY, Option.bind_assoc]
   congr 1; funext t; congr 1; funext el; congr 1; funext e; congr 1; funext b; congr 1; funext z
   split
   ·rfl
   ·rfl
  | x :: y :: z :: zs => rfl
 | delete =>
  match args with
  | [] => rfl
  | [x] => rfl
  | [s, x] => simp only [ia, cY, Option.bind_assoc, zx]
  | x :: y :: z :: zs => rfl
 | _ => rfl
theorem aeB (P : Program) (call : bE) (ev : Operand → Value) (o : Oper) (H : AH) (k : Value → AH → Option R) : rh P call ev o H k = (ft P call ev o H).bind fun r => k r.1 r.2 := by
 obtain ⟨dst, op, type, pos, after, guard⟩ := o
 cases op with
 | call c =>
  obtain ⟨callee, args, ats⟩ := c
  cases callee with
  | value f => simp only [rh, ft, Option.bind_assoc]
  | invoke r m => rfl
  | builtin b => simp only [rh, ft]; exact Ip ..
 | makeMap t r => cases r <;> rfl
 | slice t x lo hi mx =>
  cases mx with
  | none => simp only [rh, ft, Option.bind_assoc, gX]
  | some m => cases lo <;> cases hi <;> first | rfl | (simp only [rh, ft, Option.bind_assoc, gX])
 | load t a =>
  simp only [rh, ft, Option.bind_assoc]
  congr 1
  funext g
  cases g <;> simp only [gX]
 | build t parts =>
  simp only [rh, ft]
  cases P.underlying t with
  | none => rfl
  | some d => cases d <;> first | rfl | (simp only [Option.bind_assoc, Option.bind_map]; rfl)
 | buildSlice t len parts =>
  simp only [rh, ft, Option.bind_assoc]
  congr 1; funext el; congr 1; funext e; congr 1; funext z
  split
  ·rw [Option.bind_map]; rfl
  ·rfl
 | fieldAddr s x f =>
  simp only [rh, ft, Option.bind_assoc]
  congr 1; funext el; congr 1; funext e
  split
  ·rfl
  ·rw [gX]
 | alloc t => simp only [rh, ft, Option.bind_map]; rfl
 | indexAddr t x i =>
  simp only [rh, ft]
  cases P.underlying t with
  | none => rfl
  | some d => cases d <;> first | rfl | (simp only [Option.bind_assoc, gX])
 | index t x i =>
  simp only [rh, ft]
  cases P.underlying t with
  | none => rfl
  | some d => cases d <;> first | rfl | (simp only [Option.bind_assoc, gX])
 | convert s d x =>
  simp only [rh, ft]
  cases P.underlying s with
  | none => rfl
  | some d => simp only [gX]
 | store t x y => simp only [rh, ft, Option.bind_assoc, zx]
 | mapUpdate t m key x => simp only [rh, ft, Option.bind_assoc, zx]
 | _ => first | rfl | (simp only [rh, ft, Option.bind_assoc, gX]; done)
theorem NH (P : Program) (b : Builtin) (ts : Array TypeId) (args : List Value) (H : AH) (k : Value → AH → Option R) : C9 P b ts args H k = ia P b ts args H k := by
 unfold C9 ia;simp only [M5]
theorem ak4 (P : Program) (call : bE) (ev : Operand → Value) (o : Oper) (H : AH) (k : Value → AH → Option R) : cOp P call ev o H k = rh P call ev o H k := by
 unfold cOp rh;simp only [M5, NH]
theorem XE (P : Program) (call : bE) (ev : Operand → Value) (o : Oper) (H : AH) (k : Value → AH → Option R) : cOp P call ev o H k = (ft P call ev o H).bind fun r => k r.1 r.2 := (ak4 ..).trans (aeB ..)
def JH (op : Op) : Bool := lF op == 0 || lF op == 2
theorem V3 {P : Program} {call : bE} {ev : Operand → Value} {o : Oper} {H : AH} (h : JH o.op = true) : ft P call ev o H = (cOp P call ev o H fun v _ => some v).map (·, H) := by
 rw [XE]
 cases hx : ft P call ev o H with
 | none => rfl
 | some r =>
  obtain ⟨v, H'⟩ := r;simp only [bL, fH];unfold JH at h;simp only [Bool.or_eq_true, beq_iff_eq] at h
  rcases h with h | h
  ·rw [(wq h hx).1]
  ·rw [CM h] at hx
   obtain ⟨y, _, e⟩ := bm.1 hx;rw [(Prod.mk.inj e).2]
abbrev QI (P : Program) (G : List Nat) (call : bE) (ops : Array Oper) (o : Oper) (A : List Value) (H : AH) (k : List Value → AH → Option R) : Option R :=
 match o.op.operands.toList.all (No G) with
 | true => match o.guard with
  | none => cOp P call (f8 A) o H fun v H' => k (lY A o.dst v) H'
  | some g => match JH o.op with
   | true => (match dN ops A g.1 == some g.2 with
    | true => cOp P call (f8 A) o H fun v _ => some v
    | false => some undef).bind fun v => k (lY A o.dst v) H
   | false => (match dN ops A g.1 == some g.2 with
    | true => ft P call (f8 A) o H
    | false => some (undef, H)).bind fun r => k (lY A o.dst r.1) r.2
 | false => none
theorem Ll (P : Program) (G : List Nat) (call : bE) (ops : Array Oper) (o : Oper) (A : List Value) (H : AH) (k : List Value → AH → Option R) : QI P G call ops o A H k = (gS P G call ops o A H).bind fun s => k s.1 s.2 := by
 unfold QI gS
 cases o.op.operands.toList.all (No G) with
 | false => rfl
 | true =>
  simp only [if_true];unfold Region.wanted
  cases o.guard with
  | none =>
   simp only [if_true];rw [XE, Option.bind_map]; rfl
  | some g =>
   obtain ⟨g, want⟩ := g;simp only
   cases hl : JH o.op with
   | true =>
    simp only
    by_cases h : (dN ops A g == some want) = true
    ·rw [if_pos h, h, V3 hl]
     simp only
     cases (cOp P call (f8 A) o H fun v _ => some v) <;> rfl
    ·rw [if_neg h, Bool.eq_false_iff.2 h]; rfl
   | false =>
    simp only
    by_cases h : (dN ops A g == some want) = true
    ·rw [if_pos h, h, Option.bind_map]; rfl
    ·rw [if_neg h, Bool.eq_false_iff.2 h]; rfl
abbrev XF (P : Program) (G : List Nat) (call : bE) (ops : Array Oper) : List Oper → List Value → AH → (List Value → AH → Option R) → Option R
 | [], A, H, k => k A H
 | o :: rest, A, H, k => QI P G call ops o A H fun A' H' => XF P G call ops rest A' H' k
theorem QH (P : Program) (G : List Nat) (call : bE) (ops : Array Oper) : ∀ (l : List Oper) (A : List Value) (H : AH) (k : List Value → AH → Option R), XF P G call ops l A H k = (dm P G call ops l A H).bind fun s => k s.1 s.2 := by
 intro l
 induction l with
 | nil => intro A H k; rfl
 | cons o l ih =>
  intro A H k;simp only [XF, dm];rw [Ll, Option.bind_assoc]
  congr 1
  funext s
  exact ih _ _ _
noncomputable def bO {R : Type} (x y : Option Value) (k : Option R) : Option R := Lm (x = y) k
theorem ai9 {R : Type} {x y : Option Value} (h : x = y) (k : Option R) : bO x y k = k := lh h k
noncomputable abbrev T0 {R : Type} (j : Nat) (hist : List ((AH → Option Value) × AH)) (rd : AH → Option Value) (H H' : AH) (k : Option R) : List (Nat × Nat) → Option R
 | [] => k
 | pq :: rest => match pq.1 == j with
  | true => match Nat.blt pq.2 j with
   | true => match hist[pq.2]? with
    | some h => bO (rd h.2) (rd H) (T0 j hist rd H H' k rest)
    | none => none
   | false => T0 j hist rd H H' k rest
  | false => match pq.2 == j with
   | true => match Nat.blt pq.1 j with
    | true => match hist[pq.1]? with
     | some h => bO (h.1 H') (h.1 h.2) (T0 j hist rd H H' k rest)
     | none => none
    | false => T0 j hist rd H H' k rest
   | false => T0 j hist rd H H' k rest
theorem Ln {α β : Type} (p : Prop) (x : Option α) (k : α → Option β) : (Lm p x).bind k = Lm p (x.bind k) := by unfold Lm; split <;> rfl
theorem XL {α β : Type} {j : Nat} {hist : List ((AH → Option Value) × AH)} {rd : AH → Option Value} {H H' : AH} (x : Option α) (k : α → Option β) : ∀ l, (T0 j hist rd H H' x l).bind k = T0 j hist rd H H' (x.bind k) l := by
 intro l
 induction l with
 | nil => rfl
 | cons p l ih =>
  simp only [T0]
  cases p.1 == j with
  | true =>
   cases Nat.blt p.2 j with
   | true =>
    simp only
    cases hist[p.2]? with
    | none => rfl
    | some h => simp only [bO]; rw [Ln, ih]
   | false => exact ih
  | false =>
   cases p.2 == j with
   | true =>
    cases Nat.blt p.1 j with
    | true =>
     simp only
     cases hist[p.1]? with
     | none => rfl
     | some h => simp only [bO]; rw [Ln, ih]
    | false => exact ih
   | false => exact ih
def Xa (j : Nat) (hist : List ((AH → Option Value) × AH)) (rd : AH → Option Value) (H H' : AH) (p : Nat × Nat) : Prop :=
 (p.1 = j → p.2 < j → ∃ h, hist[p.2]? = some h ∧ rd h.2 = rd H) ∧ (p.2 = j → p.1 < j → ∃ h, hist[p.1]? = some h ∧ h.1 H' = h.1 h.2)
theorem QK {α : Type} {p : Prop} {x : Option α} {r : α} : Lm p x = some r ↔ p ∧ x = some r := ⟨o5, fun h => by rw [lh h.1]; exact h.2⟩
theorem QM {α : Type} {j : Nat} {hist : List ((AH → Option Value) × AH)} {rd : AH → Option Value} {H H' : AH} {x : Option α} {r : α} : ∀ {l}, T0 j hist rd H H' x l = some r ↔ (∀ p ∈ l, Xa j hist rd H H' p) ∧ x = some r := by
 intro l
 induction l with
 | nil => simp [T0]
 | cons p l ih =>
  have split : (∀ q ∈ p :: l, Xa j hist rd H H' q) ↔ Xa j hist rd H H' p ∧ ∀ q ∈ l, Xa j hist rd H H' q := by simp
  rw [split, and_assoc, ← ih];simp only [T0]
  by_cases h1 : p.1 = j
  ·have e1 : (p.1 == j) = true := by simpa using h1
   rw [e1];simp only
   by_cases h2 : p.2 < j
   ·have e2 : Nat.blt p.2 j = true := by simpa [Nat.blt_eq] using h2
    rw [e2];simp only
    have hn : ¬ p.2 = j := by omega
    unfold Xa
    cases hist[p.2]? with
    | none => simp [h1, h2]
    | some h => simp only [bO]; rw [QK]; simp [h1, h2, hn]
   ·have e2 : Nat.blt p.2 j = false := by rw [Bool.eq_false_iff]; intro h; exact h2 (by simpa [Nat.blt_eq] using h)
    rw [e2];simp only;have : Xa j hist rd H H' p := ⟨fun _ h => absurd h h2, fun _ h => absurd h (by omega)⟩;simp [this]
  ·have e1 : (p.1 == j) = false := by simpa using h1
   rw [e1];simp only
   by_cases h2 : p.2 = j
   ·have e2 : (p.2 == j) = true := by simpa using h2
    rw [e2];simp only
    by_cases h3 : p.1 < j
    ·have e3 : Nat.blt p.1 j = true := by simpa [Nat.blt_eq] using h3
     rw [e3];simp only;unfold Xa
     cases hist[p.1]? with
     | none => simp [h1, h2, h3]
     | some h => simp only [bO]; rw [QK]; simp [h1, h2, h3]
    ·have e3 : Nat.blt p.1 j = false := by rw [Bool.eq_false_iff]; intro h; exact h3 (by simpa [Nat.blt_eq] using h)
     rw [e3];simp only;have : Xa j hist rd H H' p := ⟨fun h => absurd h h1, fun _ h => absurd h h3⟩;simp [this]
   ·have e2 : (p.2 == j) = false := by simpa using h2
    rw [e2];simp only;have : Xa j hist rd H H' p := ⟨fun h => absurd h h1, fun h => absurd h h2⟩;simp [this]
abbrev Kk (P : Program) (A : List Value) (o : Oper) : AH → Option Value := fun H => CN P (f8 A) o.op H
noncomputable def ry (P : Program) (G : List Nat) (call : bE) (ops : Array Oper) (pairs : List (Nat × Nat)) : List Oper → Nat → List ((AH → Option Value) × AH) → List Value → AH → Option (List Value × AH)
 | [], _, _, A, H => some (A, H)
 | o :: rest, j, hist, A, H => (gS P G call ops o A H).bind fun s => T0 j hist (Kk P A o) H s.2 (ry P G call ops pairs rest (j + 1) (hist ++ [(Kk P A o, H)]) s.1 s.2) pairs
noncomputable abbrev QG (P : Program) (G : List Nat) (call : bE) (ops : Array Oper) (pairs : List (Nat × Nat)) : List Oper → Nat → List ((AH → Option Value) × AH) → List Value → AH → (List Value → AH → Option R) → Option R
 | [], _, _, A, H, k => k A H
 | o :: rest, j, hist, A, H, k => QI P G call ops o A H fun A' H' => T0 j hist (Kk P A o) H H' (QG P G call ops pairs rest (j + 1) (hist ++ [(Kk P A o, H)]) A' H' k) pairs
theorem XG (P : Program) (G : List Nat) (call : bE) (ops : Array Oper) (pairs : List (Nat × Nat)) : ∀ (l : List Oper) (j : Nat) (hist : List ((AH → Option Value) × AH)) (A : List Value) (H : AH) (k : List Value → AH → Option R), QG P G call ops pairs l j hist A H k = (ry P G call ops pairs l j hist A H).bind fun s => k s.1 s.2 := by
 intro l
 induction l with
 | nil => intro j hist A H k; rfl
 | cons o l ih =>
  intro j hist A H k;simp only [QG, ry];rw [Ll, Option.bind_assoc]
  congr 1
  funext s
  rw [XL, ih]
theorem TM {P : Program} {G : List Nat} {call : bE} {ops : Array Oper} {pairs : List (Nat × Nat)} {A0 : List Value} {H0 : AH} {r0 : List Value × AH} (h0 : dm P G call ops ops.toList A0 H0 = some r0) (hp : ∀ p ∈ pairs, p.1 < ops.size ∧ p.2 < ops.size ∧ p.1 ≠ p.2) :
 ∀ (l : List Oper) (j : Nat) (hist : List ((AH → Option Value) × AH)), ops.toList.drop j = l → hist.length = j → (∀ i, i < j → ∃ o, ops[i]? = some o ∧ hist[i]? = some (Kk P (km P G call ops A0 H0 i).1 o, (km P G call ops A0 H0 i).2)) →
  ∀ r, ry P G call ops pairs l j hist (km P G call ops A0 H0 j).1 (km P G call ops A0 H0 j).2 = some r ↔ (∀ p ∈ pairs, j ≤ max p.1 p.2 → ku P (km P G call ops A0 H0) ops p) ∧ r = r0 := by
 intro l
 induction l with
 | nil =>
  intro j hist hl hlen hh r
  have hj : ops.size ≤ j := by
   have := congrArg List.length hl;simp at this; omega
  have hst : km P G call ops A0 H0 j = r0 := by
   unfold km;rw [List.take_of_length_le (by simpa using hj), h0]; rfl
  simp only [ry, hst]
  constructor
  ·intro e
   exact ⟨fun p hpm hm => absurd (hp p hpm) (by omega), (gr e).symm⟩
  ·rintro ⟨_, rfl⟩; rfl
 | cons o l ih =>
  intro j hist hl hlen hh r
  have hj : ops.toList[j]? = some o := by
   have := congrArg (·[0]?) hl
   simpa using this
  have ho : ops[j]? = some o := by simpa using hj
  have hjs : j < ops.size := by
   have := (Gb.1 hj).1
   simpa using this
  have hstep := MW h0 ho
  have hl' : ops.toList.drop (j + 1) = l := by
   have := congrArg (List.drop 1) hl
   simpa [List.drop_drop, Nat.add_comm] using this
  have hh' : ∀ i, i < j + 1 → ∃ o', ops[i]? = some o' ∧ (hist ++ [(Kk P (km P G call ops A0 H0 j).1 o, (km P G call ops A0 H0 j).2)])[i]? = some (Kk P (km P G call ops A0 H0 i).1 o', (km P G call ops A0 H0 i).2) := by
   intro i hi
   by_cases e : i = j
   ·subst e
    exact ⟨o, ho, by rw [List.getElem?_append_right (by omega)]; simp [hlen]⟩
   ·obtain ⟨o', h1, h2⟩ := hh i (by omega)
    exact ⟨o', h1, by rw [List.getElem?_append_left (by omega)]; exact h2⟩
  have hi := ih (j + 1) _ hl' (by simp [hlen]) hh' r;simp only [ry];rw [hstep];simp only [bL];rw [QM, hi]
  have key : ∀ p ∈ pairs, max p.1 p.2 = j → (Xa j hist (Kk P (km P G call ops A0 H0 j).1 o) (km P G call ops A0 H0 j).2 (km P G call ops A0 H0 (j + 1)).2 p ↔ ku P (km P G call ops A0 H0) ops p) := by
   intro p hpm hm;obtain ⟨h1, h2, h3⟩ := hp p hpm;unfold Xa ku
   by_cases hlt : p.2 < p.1
   ·have e1 : p.1 = j := by omega
    obtain ⟨o2, _, hg⟩ := hh p.2 (by omega);rw [if_pos hlt]
    constructor
    ·intro ⟨a, _⟩ o' ho'
     rw [e1, ho] at ho';cases ho';obtain ⟨h, hg', e⟩ := a e1 (by omega);rw [hg] at hg';cases hg';rw [e1];exact e
    ·intro a
     refine ⟨fun _ _ => ⟨_, hg, ?_⟩, fun e => absurd e (by omega)⟩;have := a o (by rw [e1]; exact ho);rw [e1] at this;exact this
   ·have e2 : p.2 = j := by omega
    obtain ⟨o1, ho1, hg⟩ := hh p.1 (by omega);rw [if_neg hlt, e2]
    constructor
    ·intro ⟨_, a⟩ o' ho'
     rw [ho1] at ho';cases ho';obtain ⟨h, hg', e⟩ := a rfl (by omega);rw [hg] at hg';cases hg';exact e
    ·intro a
     refine ⟨fun e => absurd e (by omega), fun _ _ => ⟨_, hg, a o1 ho1⟩⟩
  have out : ∀ p ∈ pairs, max p.1 p.2 ≠ j → Xa j hist (Kk P (km P G call ops A0 H0 j).1 o) (km P G call ops A0 H0 j).2 (km P G call ops A0 H0 (j + 1)).2 p := by
   intro p hpm hm;exact ⟨fun h1 h2 => absurd hm (by omega), fun h1 h2 => absurd hm (by omega)⟩
  constructor
  ·rintro ⟨a, b, c⟩
   refine ⟨fun p hpm hm => ?_, c⟩
   by_cases e : max p.1 p.2 = j
   ·exact (key p hpm e).1 (a p hpm)
   ·exact b p hpm (by omega)
  ·rintro ⟨a, c⟩
   refine ⟨fun p hpm => ?_, fun p hpm hm => a p hpm (by omega), c⟩
   by_cases e : max p.1 p.2 = j
   ·exact (key p hpm e).2 (a p hpm (by omega))
   ·exact out p hpm e
theorem Nv {P : Program} {G : List Nat} {call : bE} {ops : Array Oper} {pairs : List (Nat × Nat)} : ∀ (l : List Oper) (j : Nat) (hist : List ((AH → Option Value) × AH)) (A : List Value) (H : AH) (r : List Value × AH), ry P G call ops pairs l j hist A H = some r → dm P G call ops l A H = some r := by
 intro l
 induction l with
 | nil => intro j hist A H r h; exact h
 | cons o l ih =>
  intro j hist A H r h;simp only [ry] at h;obtain ⟨s, hs, h⟩ := aI.1 h;simp only [dm];rw [hs];exact ih _ _ _ _ _ (QM.1 h).2
theorem JN {ops : Array Oper} : ∀ p ∈ ee ops.toList, p.1 < ops.size ∧ p.2 < ops.size ∧ p.1 ≠ p.2 := by
 intro p hp;unfold ee at hp;simp only [List.mem_flatMap, List.mem_filter, List.mem_map] at hp;obtain ⟨x, ⟨hx, hx2⟩, y, ⟨hy, hy2⟩, rfl⟩ := hp;have hx := List.mem_zipIdx hx;have hy := List.mem_zipIdx hy;simp only [beq_iff_eq] at hx2;simp only [Bool.and_eq_true, beq_iff_eq] at hy2;refine ⟨by have := hx.2.1; simpa using this, by have := hy.2.1; simpa using this, ?_⟩;intro e;simp only at e;have e3 := hy2.1.1;have ex := hx.2.2;have ey := hy.2.2;simp only [e, Nat.sub_zero] at ex ey
 have : x.1 = y.1 := by rw [ex, ey]
 rw [this, e3] at hx2;cases hx2
theorem NJ {P : Program} {G : List Nat} {call : bE} {ops : Array Oper} {pairs : List (Nat × Nat)} (hp : ∀ p ∈ pairs, p.1 < ops.size ∧ p.2 < ops.size ∧ p.1 ≠ p.2) (A : List Value) (H : AH) :
 Lm (∀ q ∈ pairs, ku P (km P G call ops A H) ops q) (dm P G call ops ops.toList A H) = ry P G call ops pairs ops.toList 0 [] A H := by
 cases hx : dm P G call ops ops.toList A H with
 | none =>
  cases hy : ry P G call ops pairs ops.toList 0 [] A H with
  | none => unfold Lm; split <;> rfl
  | some r => have := Nv _ _ _ _ _ _ hy; rw [hx] at this; cases this
 | some r0 =>
  have hi := TM hx hp ops.toList 0 [] rfl rfl (fun i hi => absurd hi (by omega));simp only [acJ] at hi
  cases hy : ry P G call ops pairs ops.toList 0 [] A H with
  | none =>
   cases hz : Lm (∀ q ∈ pairs, ku P (km P G call ops A H) ops q) (some r0) with
   | none => rfl
   | some r =>
    obtain ⟨h1, h2⟩ := o5 hz;have := (hi r0).2 ⟨fun p hpm _ => h1 p hpm, rfl⟩;rw [hy] at this; cases this
  | some r =>
   obtain ⟨h1, h2⟩ := (hi r).1 hy;rw [lh (fun p hpm => h1 p hpm (by omega)), h2]
noncomputable abbrev Iq (P : Program) (G : List Nat) (call : bE) (ops : Array Oper) (draw : Bool) (A : List Value) (H : AH) (k : List Value → AH → Option R) : Option R :=
 match draw with
 | false => XF P G call ops ops.toList A H k
 | true => match uC ops.toList with
  | false => none
  | true => match ee ops.toList with
   | [] => XF P G call ops ops.toList A H k
   | p :: ps => QG P G call ops (p :: ps) ops.toList 0 [] A H k
theorem NI (P : Program) (G : List Nat) (call : bE) (ops : Array Oper) (draw : Bool) (A : List Value) (H : AH) (k : List Value → AH → Option R) : Iq P G call ops draw A H k = (gF P G call ops draw A H).bind fun s => k s.1 s.2 := by
 unfold Iq gF nM
 cases draw with
 | false => exact QH ..
 | true =>
  simp only
  cases uC ops.toList with
  | false => rfl
  | true =>
   simp only
   cases hl : ee ops.toList with
   | nil => exact QH ..
   | cons p ps =>
    simp only;rw [NJ (fun q hq => JN q (by rw [hl]; exact hq)), XG]
def aeF (kn : List Value → AH → Option R) (kx : Nat → List Value → AH → Option R) (kr : List Value → AH → Option R) (r : AR) : Option R :=
 match r.1 with
 | .normal => kn r.2.1 r.2.2
 | .exit i => kx i r.2.1 r.2.2
 | .ret => kr r.2.1 r.2.2
noncomputable def jw (P : Program) (G : List Nat) (call : bE) (x : Code) (A : List Value) (H : AH) (kx : Nat → List Value → AH → Option R) (kr : List Value → AH → Option R) : Option R :=
 (qz (be P G call x) A H).bind (aeF (fun _ _ => none) kx kr)
noncomputable abbrev bh (P : Program) (G : List Nat) (call : bE) : Code → List Value → AH → (List Value → AH → Option R) → (Nat → List Value → AH → Option R) → (List Value → AH → Option R) → Option R
 | .skip, A, H, kn, _, _ => kn A H
 | .label _, A, H, kn, _, _ => kn A H
 | .region _ ops draw, A, H, kn, _, _ => Iq P G call ops draw A H kn
 | .seq x y, A, H, kn, kx, kr => bh P G call x A H (fun A H => bh P G call y A H kn kx kr) kx kr
 | .cond c x y, A, H, kn, kx, kr => match f8 A c with
  | .bool true => bh P G call x A H kn kx kr
  | .bool false => bh P G call y A H kn kx kr
  | _ => none
 | .block id x, A, H, kn, kx, kr => bh P G call x A H kn (fun i A H => if i = id then kn A H else kx i A H) kr
 | .loop x, A, H, _, kx, kr => jw P G call x A H kx kr
 | .exit id, A, H, _, kx, _ => kx id A H
 | .ret, A, H, _, _, kr => kr A H
 | _, _, _, _, _, _ => none
theorem TK {f : List Value → AH → Option AR} : ∀ {n : Nat} {A : List Value} {H : AH} {r : AR}, fK f n A H = some r → r.1 ≠ .normal := by
 intro n
 induction n with
 | zero => intro A H r h; cases h
 | succ n ih =>
  intro A H r h;simp only [fK] at h;obtain ⟨s, hs, h⟩ := aI.1 h
  split at h
  ·exact ih h
  ·rename_i e
   cases h;exact fun he => e he
theorem TL {f : List Value → AH → Option AR} {A : List Value} {H : AH} {r : AR} (h : qz f A H = some r) : r.1 ≠ .normal := by
 obtain ⟨n, hn⟩ := dl.1 h;exact TK hn
theorem wy (P : Program) (G : List Nat) (call : bE) : ∀ (c : Code) (A : List Value) (H : AH) (kn : List Value → AH → Option R) (kx : Nat → List Value → AH → Option R) (kr : List Value → AH → Option R),
 bh P G call c A H kn kx kr = (be P G call c A H).bind (aeF kn kx kr) := by
 intro c
 induction c with
 | skip => intros; rfl
 | label => intros; rfl
 | exit => intros; rfl
 | ret => intros; rfl
 | region id ops draw =>
  intro A H kn kx kr;simp only [bh, be];rw [NI, Option.bind_map]; rfl
 | seq x y ihx ihy =>
  intro A H kn kx kr;simp only [bh, be];rw [ihx, Option.bind_assoc]
  congr 1
  funext r
  obtain ⟨e, A1, H1⟩ := r
  cases e with
  | normal => simp only [aeF]; exact ihy ..
  | exit i => rfl
  | ret => rfl
 | cond c x y ihx ihy =>
  intro A H kn kx kr;simp only [bh, be]
  generalize f8 A c = v
  cases v with
  | bool b => cases b <;> first | exact ihx .. | exact ihy ..
  | _ => rfl
 | block id x ih =>
  intro A H kn kx kr;simp only [bh, be];rw [ih, Option.bind_map]
  congr 1
  funext r
  obtain ⟨e, A1, H1⟩ := r
  cases e with
  | normal => rfl
  | exit i =>
   simp only [aeF, Function.comp]
   split <;> rfl
  | ret => rfl
 | loop x ih =>
  intro A H kn kx kr;simp only [bh, be, jw]
  cases h : qz (be P G call x) A H with
  | none => rfl
  | some r =>
   simp only [bL];have := TL h;obtain ⟨e, A1, H1⟩ := r
   cases e with
   | normal => exact absurd rfl this
   | exit i => rfl
   | ret => rfl
 | rangeFunc => intros; rfl
 | scope => intros; rfl
 | goto => intros; rfl
 | refuse => intros; rfl
theorem XC (P : Program) (G : List Nat) (call : bE) (x : Code) (A : List Value) (H : AH) (kx : Nat → List Value → AH → Option R) (kr : List Value → AH → Option R) :
 jw P G call x A H kx kr = bh P G call x A H (fun A H => jw P G call x A H kx kr) kx kr := by
 rw [wy];unfold jw;rw [Xo, Option.bind_assoc]
 congr 1
 funext r
 obtain ⟨e, A1, H1⟩ := r
 cases e <;> rfl
abbrev ui (P : Program) (A : List Value) (H : AH) : List ResultVar → (List Value → Option R) → Option R
 | [], k => k []
 | .tmp t :: rs, k => ui P A H rs fun vs => k (A[t]?.getD undef :: vs)
 | .cell a t :: rs, k => tb (f6 P t) fun g => match g with
  | some n => (ay n (A[a]?.getD undef) H).bind fun v => ui P A H rs fun vs => k (v :: vs)
  | none => (ar (A[a]?.getD undef) H).bind fun v => ui P A H rs fun vs => k (v :: vs)
theorem XD (P : Program) (A : List Value) (H : AH) : ∀ (rs : List ResultVar) (k : List Value → Option R), ui P A H rs k = (uh P A H rs).bind k := by
 intro rs
 induction rs with
 | nil => intro k; rfl
 | cons r rs ih =>
  intro k;simp only [uh, Option.bind_assoc, bL]
  cases r with
  | tmp t =>
   simp only [ui, lZ, bL];rw [ih]
  | cell a t =>
   simp only [ui, lZ, Option.bind_assoc, M5]
   congr 1
   funext g
   cases g <;> (simp only; congr 1; funext v; rw [ih])
end
def tup : List Value → Value
 | [v] => v
 | vs => .tuple vs.toArray
abbrev dO (P : Program) (rs : List ResultVar) (A : List Value) (H : AH) : Option (Value × AH) := ui P A H rs fun vs => some (tup vs, H)
noncomputable def QE (P : Program) (G : List Nat) (call : bE) (n : Nat) (rs : List ResultVar) (c : Code) (args : List Value) (H : AH) : Option (Value × AH) :=
 bh P G call c (args ++ List.replicate (n - args.length) undef) H (dO P rs) (fun _ _ _ => none) (dO P rs)
theorem QF (P : Program) (rs : List ResultVar) (A : List Value) (H : AH) : dO P rs A H = (jv P A H rs).map (·, H) := by
 unfold dO jv;rw [XD, Option.map_map]
 cases uh P A H rs with
 | none => rfl
 | some vs =>
  simp only [bL, fH, Function.comp]
  congr 2
theorem XB (P : Program) (G : List Nat) (call : bE) (n : Nat) (rs : List ResultVar) (c : Code) (args : List Value) (H : AH) : QE P G call n rs c args H = qy P G call n rs c args H := by
 unfold QE qy;rw [wy]
 congr 1
 funext r
 obtain ⟨e, A1, H1⟩ := r
 cases e with
 | normal => exact QF ..
 | exit i => rfl
 | ret => exact QF ..
def bH (fn : Func) : Code := fn.body.getD .skip
theorem Nu {P : Program} {G : List Nat} {f : Nat} {fn : Func} (hf : P.funcs[f]? = some fn) (hb : fn.body.isSome = true) (hn : (fn.name == "runtime.NumGoroutine") = false) (hd : lH (bH fn) = none) {args : List Value} {H : AH} {r : Value × AH}
 (h : QE P G (aF P G) fn.ntmps fn.results.toList (bH fn) args H = some r) : aF P G f args H = some r := by
 cases hc : fn.body with
 | none => rw [hc] at hb; cases hb
 | some c =>
  rw [XB] at h;unfold bH at h hd;rw [hc] at h hd;exact akX hf hc (by simpa using hn) hd h
def Code.sub : Code → List Nat → Code
 | c, [] => c
 | .seq x _, 0 :: p => Code.sub x p
 | .seq _ y, 1 :: p => Code.sub y p
 | .cond _ x _, 2 :: p => Code.sub x p
 | .cond _ _ y, 3 :: p => Code.sub y p
 | .block _ x, 4 :: p => Code.sub x p
 | .loop x, 5 :: p => Code.sub x p
 | _, _ => .skip
def yv : Value → Option Bool
 | .bool b => some b
 | _ => none
def aQ {R : Type} (cs : List Value) (H : AH) (k : Value → AH → Option R) : Option R := k (.pointer (some ⟨H.size, 0, none⟩)) (H.push (.cells false cs))
def alN {R : Type} (len e : Nat) (cs : List Value) (H : AH) (k : Value → AH → Option R) : Option R := k (.slice (some ⟨H.size, 0, none⟩) len e) (H.push (.cells false cs))
def Ge {R : Type} (H : AH) (k : Value → AH → Option R) : Option R := k (.map (some H.size)) (H.push (.map [] 0))
def iQ {R : Type} (x : Value) (k : Value → Option R) : Option R :=
 match x with
 | .slice _ n _ => k (.int .i64 n)
 | _ => none
def Md (x : Value) : Option Value :=
 match x with
 | .slice _ _ _ => rk x
 | _ => none
def av {R : Type} (c : Value) (x y : Option R) : Option R :=
 match c with
 | .bool true => x
 | .bool false => y
 | _ => none
def EI {α : Type} (y : Option Bool) (want : Bool) (a b : Option α) : Option α :=
 match y == some want with
 | true => a
 | false => b
theorem aa9 (a b : Value) : aV (.bool true) a b = some a := rfl
theorem JZ (a b : Value) : aV (.bool false) a b = some b := rfl
abbrev vi (n : Int) : Value := .int .i64 n
abbrev vw (n : Int) : Value := .int .u64 n
abbrev vu (n : Nat) : Value := .int .u64 (n : Int)
abbrev vb (b : Bool) : Value := .bool b
inductive Stp where
 | n
 | f (k : Nat)
 | i (e : Nat) (v : Value)
 | a (len e : Nat) (v : Value)
def ad {R : Type} : List Stp → Value → (Value → Option R) → Option R
 | [], a, k => k a
 | .n :: p, a, k => (vC a).bind fun a => ad p a k
 | .f o :: p, a, k => (Gk o a).bind fun a => ad p a k
 | .i e v :: p, a, k => (pF e a v).bind fun a => ad p a k
 | .a len e v :: p, a, k => (ka len e a v).bind fun a => ad p a k
def ld {R : Type} (p : List Stp) (x : Value) (H : AH) (k : Value → Option R) : Option R := ad p x fun a => (ar a H).bind k
def ldN {R : Type} (n : Nat) (p : List Stp) (x : Value) (H : AH) (k : Value → Option R) : Option R := ad p x fun a => (ay n a H).bind k
def st {R : Type} (n : Nat) (p : List Stp) (x v : Value) (H : AH) (k : AH → Option R) : Option R := ad p x fun a => (cf n a v H).bind k
def gB (c : Value) (want : Bool) (e : Option Value) : Option Value := EI (yv c) want (e.bind some) (some undef)
def gV (c : Value) (want : Bool) (e : Value) : Option Value := EI (yv c) want (some e) (some undef)
def gE (c : Value) (want : Bool) (H : AH) (e : Option (Value × AH)) : Option (Value × AH) := EI (yv c) want e (some (undef, H))
def xe {R : Type} (c : Value) (want : Bool) : List Stp → Value → (Value → Option R) → Option R
 | [], a, k => k a
 | .n :: p, a, k => (gB c want (vC a)).bind fun a => xe c want p a k
 | .f o :: p, a, k => (gB c want (Gk o a)).bind fun a => xe c want p a k
 | .i e v :: p, a, k => (gB c want (pF e a v)).bind fun a => xe c want p a k
 | .a len e v :: p, a, k => (gB c want (ka len e a v)).bind fun a => xe c want p a k
def fF {R : Type} (c : Value) (want : Bool) (p : List Stp) (x : Value) (H : AH) (k : Value → Option R) : Option R := xe c want p x fun a => (gB c want (ar a H)).bind k
def tV {R : Type} (c : Value) (want : Bool) (n : Nat) (p : List Stp) (x : Value) (H : AH) (k : Value → Option R) : Option R := xe c want p x fun a => (gB c want (ay n a H)).bind k
def ga {R : Type} (ps : List (Nat × Nat)) (zero : List Value) (xs : List (Nat × Value)) (k : Value → Option R) : Option R := (dt (fun i => ps[i]?) zero xs).bind fun cs => k (.agg cs.toArray)
def agE (e : Nat) (i : Nat) : Option (Nat × Nat) := some (i * e, e)
def Gi {R : Type} (len e : Nat) (zero : List Value) (xs : List (Nat × Value)) (H : AH) (k : Value → AH → Option R) : Option R := (dt (agE e) (List.replicate len zero).flatten xs).bind fun cs => alN len e cs H k
def jl (D : Nat) (A A' : List Value) : Prop := A.length = A'.length ∧ ∀ t, D.testBit t = false → A[t]? = A'[t]?
def kq (D : Nat) : Nat → List Value → List Value
 | _, [] => []
 | i, v :: vs => (match D.testBit i with | true => undef | false => v) :: kq D (i + 1) vs
def clear (D : Nat) (A : List Value) : List Value := kq D 0 A
theorem y5 (D : Nat) : ∀ (A : List Value) (i : Nat), (kq D i A).length = A.length := by
 intro A
 induction A with
 | nil => intro i; rfl
 | cons v vs ih => intro i; simp [kq, ih]
theorem F0 (D : Nat) : ∀ (A : List Value) (i t : Nat), D.testBit (i + t) = false → (kq D i A)[t]? = A[t]? := by
 intro A
 induction A with
 | nil => intro i t _; rfl
 | cons v vs ih =>
  intro i t h
  cases t with
  | zero => simp only [Nat.add_zero] at h; simp [kq, h]
  | succ t => simp only [kq, List.getElem?_cons_succ]; exact ih (i + 1) t (by rw [show i + 1 + t = i + (t + 1) from by omega]; exact h)
theorem jn (D : Nat) (A : List Value) : jl D A (clear D A) := ⟨(y5 D A 0).symm, fun t h => (F0 D A 0 t (by simpa using h)).symm⟩
def aw {R : Type} (D : Nat) (k : List Value → AH → Option R) : Prop := ∀ A A' H, jl D A A' → k A H = k A' H
def opr (D : Nat) : Operand → Bool
 | .tmp t => !D.testBit t
 | _ => true
def Qk (D : Nat) : Option Tmp → Nat
 | some d => match D.testBit d with | true => D ^^^ 2 ^ d | false => D
 | none => D
theorem ag4 {D : Nat} {d : Option Tmp} {t : Nat} (h : D.testBit t = false) : (Qk D d).testBit t = false := by
 unfold Qk
 split
 ·split
  ·rename_i hd
   rw [Nat.testBit_xor, h, Nat.testBit_two_pow];simp;intro e;subst e; rw [h] at hd; cases hd
  ·exact h
 ·exact h
theorem ag5 {D : Nat} {d : Option Tmp} {t : Nat} (h : (Qk D d).testBit t = false) (hd : d ≠ some t) : D.testBit t = false := by
 unfold Qk at h
 split at h
 ·rename_i d
  split at h
  ·rename_i hb
   rw [Nat.testBit_xor, Nat.testBit_two_pow] at h;have : ¬ d = t := fun e => hd (by rw [e])
   simpa [this] using h
  ·exact h
 ·exact h
def vA (D : Nat) (ops : Array Oper) (o : Oper) : Bool :=
 o.op.operands.toList.all (opr D) && match o.guard with
 | none => true
 | some g => match (ops[g.1]?).bind (·.dst) with
  | some t => !D.testBit t
  | none => true
def pE (ops : Array Oper) : List Oper → Nat → Option Nat
 | [], D => some D
 | o :: rest, D => match vA D ops o with
  | true => pE ops rest (Qk D o.dst)
  | false => none
def tN : Code → Nat → Option Nat
 | .skip, D => some D
 | .label _, D => some D
 | .region _ ops _, D => pE ops ops.toList D
 | .seq x y, D => match tN x D with
  | some D1 => match tN y D1 with
   | some D2 => some D2
   | none => none
  | none => none
 | .cond c x y, D => match opr D c with
  | true => match tN x D, tN y D with
   | some D1, some D2 => some (D1 ||| D2)
   | _, _ => none
  | false => none
 | .block _ x, D => match tN x D with
  | some _ => some D
  | none => none
 | .loop x, D => match tN x D with
  | some _ => some D
  | none => none
 | .exit _, _ => some 0
 | .ret, _ => some 0
 | _, _ => none
section
variable {P : Program} {G : List Nat} {call : bE} {R : Type}
theorem jl.mono {D D' : Nat} {A A' : List Value} (h : jl D A A') (hm : ∀ t, D'.testBit t = false → D.testBit t = false) : jl D' A A' := ⟨h.1, fun t ht => h.2 t (hm t ht)⟩
theorem jl.ev {D : Nat} {A A' : List Value} (h : jl D A A') {x : Operand} (hx : opr D x = true) : f8 A x = f8 A' x := by
 cases x with
 | tmp t => simp only [opr, Bool.not_eq_true'] at hx; simp only [f8]; rw [h.2 t hx]
 | _ => rfl
theorem jl.put {D : Nat} {A A' : List Value} (h : jl D A A') (d : Option Tmp) (v : Value) : jl (Qk D d) (lY A d v) (lY A' d v) := by
 refine ⟨by rw [nN, nN, h.1], fun t ht => ?_⟩
 by_cases hd : d = some t
 ·subst hd; rw [Ca, Ca, h.1]
 ·rw [wr hd, wr hd]; exact h.2 t (ag5 ht hd)
theorem aa2 {ops : Array Oper} : ∀ {l : List Oper} {D D' : Nat}, pE ops l D = some D' → ∀ t, D.testBit t = false → D'.testBit t = false := by
 intro l
 induction l with
 | nil => intro D D' h t ht; simp only [pE] at h; cases h; exact ht
 | cons o l ih =>
  intro D D' h t ht;simp only [pE] at h
  split at h
  ·exact ih h t (ag4 ht)
  ·cases h
theorem JT : ∀ {c : Code} {D D' : Nat}, tN c D = some D' → ∀ t, D.testBit t = false → D'.testBit t = false := by
 intro c
 induction c with
 | skip => intro D D' h t ht; simp only [tN] at h; cases h; exact ht
 | label l => intro D D' h t ht; simp only [tN] at h; cases h; exact ht
 | region id ops draw => intro D D' h; simp only [tN] at h; exact aa2 h
 | seq x y ihx ihy =>
  intro D D' h t ht;simp only [tN] at h
  split at h
  ·rename_i D1 h1
   split at h
   ·rename_i D2 h2; cases h; exact ihy h2 t (ihx h1 t ht)
   ·cases h
  ·cases h
 | cond c x y ihx ihy =>
  intro D D' h t ht;simp only [tN] at h
  split at h
  ·split at h
   ·rename_i D1 D2 h1 h2; cases h
    rw [Nat.testBit_or, ihx h1 t ht, ihy h2 t ht]; rfl
   ·cases h
  ·cases h
 | block id x ih => intro D D' h t ht; simp only [tN] at h; split at h <;> cases h; exact ht
 | loop x ih => intro D D' h t ht; simp only [tN] at h; split at h <;> cases h; exact ht
 | exit id => intro D D' h t ht; simp only [tN] at h; cases h; simp
 | ret => intro D D' h t ht; simp only [tN] at h; cases h; simp
 | rangeFunc => intro D D' h; simp [tN] at h
 | scope => intro D D' h; simp [tN] at h
 | goto => intro D D' h; simp [tN] at h
 | refuse => intro D D' h; simp [tN] at h
inductive Both (D : Nat) : Option (List Value × AH) → Option (List Value × AH) → Prop
 | no : Both D none none
 | yes {A A' : List Value} (H : AH) (h : jl D A A') : Both D (some (A, H)) (some (A', H))
theorem WJ {ops : Array Oper} {o : Oper} {D : Nat} (ho : vA D ops o = true) {A A' : List Value} (h : jl D A A') (H : AH) : Both (Qk D o.dst) (gS P G call ops o A H) (gS P G call ops o A' H) := by
 unfold vA at ho;simp only [Bool.and_eq_true] at ho;have hev : ∀ x ∈ o.op.operands.toList, f8 A x = f8 A' x := fun x hx => h.ev (List.all_eq_true.1 ho.1 x hx)
 have hw : Region.wanted o (dN ops A) = Region.wanted o (dN ops A') := by
  unfold Region.wanted
  cases hg : o.guard with
  | none => rfl
  | some g =>
   obtain ⟨g, want⟩ := g;rw [hg] at ho
   have hy : dN ops A g = dN ops A' g := by
    unfold dN
    cases hd : (ops[g]?).bind (·.dst) with
    | none => rfl
    | some t =>
     have h2 := ho.2;simp only [hd, Bool.not_eq_true'] at h2;simp only [bL];rw [h.2 t h2]
   simp only [hy]
 unfold gS;rw [hw, o3 hev H]
 split
 ·split
  ·cases ft P call (f8 A') o H with
   | none => exact .no
   | some r => exact .yes r.2 (h.put o.dst r.1)
  ·exact .yes H (h.put o.dst undef)
 ·exact .no
theorem xI {ops : Array Oper} : ∀ {l : List Oper} {D D' : Nat}, pE ops l D = some D' → ∀ {A A' : List Value}, jl D A A' → ∀ H, Both D' (dm P G call ops l A H) (dm P G call ops l A' H) := by
 intro l
 induction l with
 | nil => intro D D' h A A' hA H; simp only [pE] at h; cases h; exact .yes H hA
 | cons o l ih =>
  intro D D' h A A' hA H;simp only [pE] at h
  split at h
  ·rename_i ho
   simp only [dm];have := WJ (P := P) (G := G) (call := call) ho hA H
   generalize gS P G call ops o A H = x at this
   generalize gS P G call ops o A' H = y at this
   cases this with
   | no => exact .no
   | yes H1 hA1 => exact ih h hA1 H1
  ·cases h
theorem Pb {ops : Array Oper} : ∀ {l : List Oper} {D D' : Nat}, pE ops l D = some D' → ∀ i, ∃ Di, pE ops (l.take i) D = some Di ∧ ∀ o, l[i]? = some o → vA Di ops o = true := by
 intro l
 induction l with
 | nil => intro D D' h i; exact ⟨D, by cases i <;> rfl, fun o ho => by simp at ho⟩
 | cons o l ih =>
  intro D D' h i;simp only [pE] at h
  split at h
  ·rename_i ho
   cases i with
   | zero => exact ⟨D, rfl, fun o' ho' => by simp at ho'; subst ho'; exact ho⟩
   | succ i =>
    obtain ⟨Di, h1, h2⟩ := ih h i;refine ⟨Di, ?_, fun o' ho' => h2 o' (by simpa using ho')⟩;simp only [List.take_succ_cons, pE, ho];exact h1
  ·cases h
theorem T4 {ops : Array Oper} {D D' : Nat} (h : pE ops ops.toList D = some D') {A A' : List Value} (hA : jl D A A') (H : AH) : Both D' (nM P G call ops A H) (nM P G call ops A' H) := by
 unfold nM
 split
 ·exact .no
 ·split
  ·exact xI h hA H
  ·rename_i p ps hp
   have hb := xI (P := P) (G := G) (call := call) h hA H
   have key : dm P G call ops ops.toList A H ≠ none → ((∀ q ∈ p :: ps, ku P (km P G call ops A H) ops q) ↔ ∀ q ∈ p :: ps, ku P (km P G call ops A' H) ops q) := by
    intro hne
    have hst : ∀ i, ∃ Di, jl Di (km P G call ops A H i).1 (km P G call ops A' H i).1 ∧ (km P G call ops A H i).2 = (km P G call ops A' H i).2 ∧ ∀ o, ops[i]? = some o → vA Di ops o = true := by
     intro i;obtain ⟨Di, h1, h2⟩ := Pb h i;have hbi := xI (P := P) (G := G) (call := call) h1 hA H
     cases hx : dm P G call ops ops.toList A H with
     | none => exact absurd hx hne
     | some r =>
      have h3 := yN hx i;rw [h3] at hbi;unfold km at hbi ⊢;rw [h3] at hbi ⊢
      generalize dm P G call ops (ops.toList.take i) A' H = y at hbi
      simp only [Option.getD_some] at hbi ⊢
      generalize hz : km P G call ops A H i = z at hbi
      unfold km at hz;rw [h3] at hz;simp only [Option.getD_some] at hz
      cases hbi with
      | yes H1 hA1 =>
       exact ⟨Di, hA1, rfl, fun o ho => h2 o (by simpa using ho)⟩
    have one : ∀ q, ku P (km P G call ops A H) ops q ↔ ku P (km P G call ops A' H) ops q := by
     intro q;unfold ku;obtain ⟨D1, a1, e1, o1⟩ := hst q.1;obtain ⟨D2, a2, e2, o2⟩ := hst (if q.2 < q.1 then q.2 else q.2 + 1)
     constructor
     ·intro hl o ho
      have hev : ∀ x ∈ o.op.operands.toList, f8 (km P G call ops A H q.1).1 x = f8 (km P G call ops A' H q.1).1 x := fun x hx => a1.ev (by
       have := o1 o ho;unfold vA at this;simp only [Bool.and_eq_true] at this
       exact List.all_eq_true.1 this.1 x hx)
      have := hl o ho;rw [tn hev, tn hev, e1, e2] at this;exact this
     ·intro hl o ho
      have hev : ∀ x ∈ o.op.operands.toList, f8 (km P G call ops A H q.1).1 x = f8 (km P G call ops A' H q.1).1 x := fun x hx => a1.ev (by
       have := o1 o ho;unfold vA at this;simp only [Bool.and_eq_true] at this
       exact List.all_eq_true.1 this.1 x hx)
      rw [tn hev, tn hev, e1, e2];exact hl o ho
    exact ⟨fun hl q hq => (one q).1 (hl q hq), fun hl q hq => (one q).2 (hl q hq)⟩
   have hn : dm P G call ops ops.toList A H = none → dm P G call ops ops.toList A' H = none := by
    intro e; rw [e] at hb; generalize dm P G call ops ops.toList A' H = y at hb; cases hb; rfl
   by_cases hne : dm P G call ops ops.toList A H = none
   ·rw [hne, hn hne]
    unfold Lm
    have : ∀ (c : Prop) [Decidable c], (if c then (none : Option (List Value × AH)) else none) = none := fun c _ => by split <;> rfl
    rw [this, this]; exact .no
   ·unfold Lm
    by_cases hc : ∀ q ∈ p :: ps, ku P (km P G call ops A H) ops q
    ·rw [if_pos hc, if_pos ((key hne).1 hc)]; exact hb
    ·rw [if_neg hc, if_neg (fun h => hc ((key hne).2 h))]; exact .no
inductive BothR (D D' : Nat) : Option AR → Option AR → Prop
 | no : BothR D D' none none
 | normal {A A' : List Value} (H : AH) (h : jl D' A A') : BothR D D' (some (.normal, A, H)) (some (.normal, A', H))
 | exit (i : Nat) {A A' : List Value} (H : AH) (h : jl D A A') : BothR D D' (some (.exit i, A, H)) (some (.exit i, A', H))
 | ret {A A' : List Value} (H : AH) (h : jl D A A') : BothR D D' (some (.ret, A, H)) (some (.ret, A', H))
theorem GP : ∀ {c : Code} {D D' : Nat}, tN c D = some D' → ∀ {A A' : List Value}, jl D A A' → ∀ H, BothR D D' (be P G call c A H) (be P G call c A' H) := by
 intro c
 induction c with
 | skip => intro D D' h A A' hA H; simp only [tN] at h; cases h; exact .normal H hA
 | label l => intro D D' h A A' hA H; simp only [tN] at h; cases h; exact .normal H hA
 | exit id => intro D D' h A A' hA H; exact .exit id H hA
 | ret => intro D D' h A A' hA H; exact .ret H hA
 | region id ops draw =>
  intro D D' h A A' hA H;simp only [tN] at h;simp only [be]
  have hb : Both D' (gF P G call ops draw A H) (gF P G call ops draw A' H) := by
   cases draw with
   | true => exact T4 h hA H
   | false => exact xI h hA H
  generalize gF P G call ops draw A H = x at hb
  generalize gF P G call ops draw A' H = y at hb
  cases hb with
  | no => exact .no
  | yes H1 hA1 => exact .normal H1 hA1
 | seq x y ihx ihy =>
  intro D D' h A A' hA H;simp only [tN] at h
  split at h
  ·rename_i D1 h1
   split at h
   ·rename_i D2 h2
    cases h;simp only [be];have hb := ihx h1 hA H
    generalize be P G call x A H = u at hb
    generalize be P G call x A' H = v at hb
    cases hb with
    | no => exact .no
    | normal H1 hA1 =>
     have hb2 := ihy h2 hA1 H1;simp only [bL]
     rename_i A1 A1'
     generalize be P G call y A1 H1 = u at hb2
     generalize be P G call y A1' H1 = v at hb2
     cases hb2 with
     | no => exact .no
     | normal H2 hA2 => exact .normal H2 hA2
     | exit i H2 hA2 => exact .exit i H2 (hA2.mono (fun t ht => JT h1 t ht))
     | ret H2 hA2 => exact .ret H2 (hA2.mono (fun t ht => JT h1 t ht))
    | exit i H1 hA1 => exact .exit i H1 hA1
    | ret H1 hA1 => exact .ret H1 hA1
   ·cases h
  ·cases h
 | cond c x y ihx ihy =>
  intro D D' h A A' hA H;simp only [tN] at h
  split at h
  ·rename_i hc
   split at h
   ·rename_i D1 D2 h1 h2
    cases h;simp only [be];rw [hA.ev hc]
    have m1 : ∀ t, (D1 ||| D2).testBit t = false → D1.testBit t = false := fun t ht => by rw [Nat.testBit_or, Bool.or_eq_false_iff] at ht; exact ht.1
    have m2 : ∀ t, (D1 ||| D2).testBit t = false → D2.testBit t = false := fun t ht => by rw [Nat.testBit_or, Bool.or_eq_false_iff] at ht; exact ht.2
    generalize f8 A' c = v
    cases v with
    | bool b =>
     cases b with
     | true =>
      have hb := ihx h1 hA H;simp only
      generalize be P G call x A H = u at hb
      generalize be P G call x A' H = v at hb
      cases hb with
      | no => exact .no
      | normal H1 hA1 => exact .normal H1 (hA1.mono m1)
      | exit i H1 hA1 => exact .exit i H1 hA1
      | ret H1 hA1 => exact .ret H1 hA1
     | false =>
      have hb := ihy h2 hA H;simp only
      generalize be P G call y A H = u at hb
      generalize be P G call y A' H = v at hb
      cases hb with
      | no => exact .no
      | normal H1 hA1 => exact .normal H1 (hA1.mono m2)
      | exit i H1 hA1 => exact .exit i H1 hA1
      | ret H1 hA1 => exact .ret H1 hA1
    | _ => exact .no
   ·cases h
  ·cases h
 | block id x ih =>
  intro D D' h A A' hA H;simp only [tN] at h
  split at h <;> cases h
  rename_i D1 h1
  simp only [be];have hb := ih h1 hA H
  generalize be P G call x A H = u at hb
  generalize be P G call x A' H = v at hb
  cases hb with
  | no => exact .no
  | normal H1 hA1 => exact .normal H1 (hA1.mono (fun t ht => JT h1 t ht))
  | exit i H1 hA1 =>
   simp only [fH]
   split
   ·exact .normal H1 hA1
   ·exact .exit i H1 hA1
  | ret H1 hA1 => exact .ret H1 hA1
 | loop x ih =>
  intro D D' h A A' hA H;simp only [tN] at h
  split at h <;> cases h
  rename_i D1 h1
  simp only [be]
  have it : ∀ n {A A' : List Value} (H : AH), jl D A A' → BothR D D (fK (be P G call x) n A H) (fK (be P G call x) n A' H) := by
   intro n
   induction n with
   | zero => intro A A' H _; exact .no
   | succ n ihn =>
    intro A A' H hA;simp only [fK];have hb := ih h1 hA H
    generalize be P G call x A H = u at hb
    generalize be P G call x A' H = v at hb
    cases hb with
    | no => exact .no
    | normal H1 hA1 => exact ihn H1 (hA1.mono (fun t ht => JT h1 t ht))
    | exit i H1 hA1 => exact .exit i H1 hA1
    | ret H1 hA1 => exact .ret H1 hA1
  cases hl : qz (be P G call x) A H with
  | some r =>
   obtain ⟨n, hn⟩ := dl.1 hl;have hb := it n H hA;rw [hn] at hb
   cases hm : fK (be P G call x) n A' H with
   | none => rw [hm] at hb; cases hb
   | some r' =>
    rw [dl.2 ⟨n, hm⟩];rw [hm] at hb;exact hb
  | none =>
   cases hl' : qz (be P G call x) A' H with
   | none => exact .no
   | some r' =>
    obtain ⟨n, hn⟩ := dl.1 hl';have hb := it n H hA;rw [hn] at hb
    cases hm : fK (be P G call x) n A H with
    | none => rw [hm] at hb; cases hb
    | some r => rw [dl.2 ⟨n, hm⟩] at hl; cases hl
 | rangeFunc => intro D D' h; simp [tN] at h
 | scope => intro D D' h; simp [tN] at h
 | goto => intro D D' h; simp [tN] at h
 | refuse => intro D D' h; simp [tN] at h
def Gy (D D' : Nat) : Bool := D ||| D' == D'
theorem Tl {D D' : Nat} (h : Gy D D' = true) : ∀ t, D'.testBit t = false → D.testBit t = false := by
 intro t ht;unfold Gy at h
 have e : D ||| D' = D' := by simpa using h
 rw [← e, Nat.testBit_or, Bool.or_eq_false_iff] at ht;exact ht.1
theorem aw.le {D D' : Nat} {k : List Value → AH → Option R} (h : aw D' k) (hs : Gy D D' = true) : aw D k := fun A A' H hA => h A A' H (hA.mono (Tl hs))
def zC (c : Code) (D D' : Nat) : Bool := match tN c D with
 | some D1 => Gy D1 D'
 | none => false
theorem Ww {c : Code} {D D' : Nat} {kn : List Value → AH → Option R} {kx : Nat → List Value → AH → Option R} {kr : List Value → AH → Option R} (h : zC c D D' = true) (hn : aw D' kn) (hx : ∀ i, aw D (kx i)) (hr : aw D kr) :
 aw D (fun A H => bh P G call c A H kn kx kr) := by
 intro A A' H hA;unfold zC at h
 split at h
 ·rename_i D1 h1
  simp only;rw [wy, wy];have hb := GP (P := P) (G := G) (call := call) h1 hA H
  generalize be P G call c A H = u at hb
  generalize be P G call c A' H = v at hb
  cases hb with
  | no => rfl
  | normal H1 hA1 => exact hn _ _ H1 (hA1.mono (Tl h))
  | exit i H1 hA1 => exact hx i _ _ H1 hA1
  | ret H1 hA1 => exact hr _ _ H1 hA1
 ·cases h
theorem Wx {c : Code} {D : Nat} {kx : Nat → List Value → AH → Option R} {kr : List Value → AH → Option R} (h : zC c D D = true) (hx : ∀ i, aw D (kx i)) (hr : aw D kr) :
 aw D (fun A H => jw P G call c A H kx kr) := by
 intro A A' H hA;unfold zC at h
 split at h
 ·rename_i D1 h1
  have hb := GP (P := P) (G := G) (call := call) (c := .loop c) (D := D) (D' := D) (by simp only [tN, h1]) hA H;simp only [be] at hb;simp only [jw]
  generalize qz (be P G call c) A H = u at hb
  generalize qz (be P G call c) A' H = v at hb
  cases hb with
  | no => rfl
  | normal H1 hA1 => rfl
  | exit i H1 hA1 => exact hx i _ _ H1 hA1
  | ret H1 hA1 => exact hr _ _ H1 hA1
 ·cases h
def SL (D : Nat) (rs : List ResultVar) : Bool := rs.all fun r => match r with
 | .tmp t => !D.testBit t
 | .cell a _ => !D.testBit a
theorem Wy {D : Nat} : ∀ {rs : List ResultVar} (_ : SL D rs = true) (k : List Value → AH → Option R), aw D (fun A H => ui P A H rs fun vs => k vs H) := by
 intro rs
 induction rs with
 | nil => intro _ k A A' H hA; rfl
 | cons r rs ih =>
  intro h k A A' H hA;unfold SL at h;simp only [List.all_cons, Bool.and_eq_true] at h
  cases r with
  | tmp t =>
   simp only [Bool.not_eq_true'] at h;simp only [ui];rw [hA.2 t h.1];exact ih h.2 (fun vs H => k ((A'[t]?.getD undef) :: vs) H) A A' H hA
  | cell a t =>
   simp only [Bool.not_eq_true'] at h;simp only [ui];rw [hA.2 a h.1, M5, M5]
   congr 1
   funext g
   cases g <;> (simp only; congr 1; funext v; exact ih h.2 (fun vs H => k (v :: vs) H) A A' H hA)
theorem ab2 {D : Nat} {rs : List ResultVar} (h : SL D rs = true) : aw D (dO P rs) := Wy h fun vs H => some (tup vs, H)
theorem Wz {D : Nat} : aw D (fun (_ : List Value) (_ : AH) => (none : Option R)) := fun _ _ _ _ => rfl
theorem PR {D id : Nat} {kn : List Value → AH → Option R} {kx : Nat → List Value → AH → Option R} (hn : aw D kn) (hx : ∀ i, aw D (kx i)) : ∀ i, aw D (fun A H => if i = id then kn A H else kx i A H) := by
 intro i A A' H hA;simp only
 split
 ·exact hn _ _ _ hA
 ·exact hx i _ _ _ hA
theorem Fj {D : Nat} {n : List Value → AH → Option R} (h : aw D n) : aw D (fun A H => n (clear D A) H) := by
 intro A A' H hA;simp only;rw [← h A (clear D A) H (jn D A), ← h A' (clear D A') H (jn D A')];exact h A A' H hA
variable {A : List Value} {H : AH} {kn : List Value → AH → Option R} {kx : Nat → List Value → AH → Option R} {kr : List Value → AH → Option R}
theorem aeD {c x y : Code} {e : Operand} (h : c = .cond e x y) : bh P G call c A H kn kx kr = av (f8 A e) (bh P G call x A H kn kx kr) (bh P G call y A H kn kx kr) := by subst h; rfl
theorem Lh {c x : Code} {id : Nat} (h : c = .block id x) {D : Nat} {n : Nat → List Value → AH → Option R} (hn : n = fun i A H => if i = id then kn A H else kx i A H) (hD : ∀ i, aw D (n i)) :
 bh P G call c A H kn kx kr = bh P G call x A H kn (fun i A H => n i (clear D A) H) kr := by
 subst h
 have e : (fun i A H => n i (clear D A) H) = n := by
  funext i A H
  exact (hD i A (clear D A) H (jn D A)).symm
 rw [e, hn]; try rfl
theorem af5 {c x : Code} (h : c = .loop x) : bh P G call c A H kn kx kr = jw P G call x A H kx kr := by subst h; rfl
theorem O1 {x : Code} {D : Nat} {n : List Value → AH → Option R} (hn : n = fun A H => jw P G call x A H kx kr) (hD : aw D n) : jw P G call x A H kx kr = n (clear D A) H := by
 have := hD A (clear D A) H (jn D A);rw [← this, hn]
theorem O0 {x : Code} {D : Nat} {n : List Value → AH → Option R} (hn : n = fun A H => jw P G call x A H kx kr) (hD : aw D n) :
 jw P G call x A H kx kr = bh P G call x A H (fun A H => n (clear D A) H) kx kr := by
 have e : (fun A H => n (clear D A) H) = n := by
  funext A H
  exact (hD A (clear D A) H (jn D A)).symm
 rw [e, hn]; exact XC ..
def Code.pre : Nat → Code → Code
 | 0, .seq x _ => x
 | k + 1, .seq x y => .seq x (Code.pre k y)
 | _, c => c
def Code.post : Nat → Code → Code
 | 0, .seq _ y => y
 | k + 1, .seq _ y => Code.post k y
 | _, _ => .skip
theorem ajU : ∀ (k : Nat) (c : Code) (A : List Value) (H : AH), bh P G call c A H kn kx kr = bh P G call (Code.pre k c) A H (fun A H => bh P G call (Code.post k c) A H kn kx kr) kx kr := by
 intro k
 induction k with
 | zero => intro c A H; cases c <;> rfl
 | succ k ih =>
  intro c A H
  cases c with
  | seq x y =>
   have e : (fun A H => bh P G call y A H kn kx kr) = fun A H => bh P G call (Code.pre k y) A H (fun A H => bh P G call (Code.post k y) A H kn kx kr) kx kr := by
    funext A H; exact ih y A H
   show bh P G call x A H (fun A H => bh P G call y A H kn kx kr) kx kr = _;rw [e]; rfl
  | _ => rfl
variable {l T : Option R}
theorem ajV {c : Code} {k D : Nat} {n : List Value → AH → Option R} (h0 : l = bh P G call c A H kn kx kr) (hn : n = fun A H => bh P G call (Code.post k c) A H kn kx kr) (hD : aw D n)
 (h1 : bh P G call (Code.pre k c) A H (fun A H => n (clear D A) H) kx kr = T) : l = T := by
 have e : (fun A H => n (clear D A) H) = n := by
  funext A H
  exact (hD A (clear D A) H (jn D A)).symm
 rw [e, hn] at h1;exact h0.trans ((ajU k c A H).trans h1)
theorem XP {v v' : Value} {x x' y y' : Option R} (h : v = v') (hx : x = x') (hy : y = y') : av v x y = av v' x' y' := by rw [h, hx, hy]
theorem aeE {c x y : Code} {e : Operand} (h0 : l = bh P G call c A H kn kx kr) (h : c = .cond e x y) (h1 : av (f8 A e) (bh P G call x A H kn kx kr) (bh P G call y A H kn kx kr) = T) : l = T := h0.trans ((aeD h).trans h1)
theorem XA {c x : Code} {id D : Nat} {n : Nat → List Value → AH → Option R} (h0 : l = bh P G call c A H kn kx kr) (h : c = .block id x) (hn : n = fun i A H => if i = id then kn A H else kx i A H) (hD : ∀ i, aw D (n i))
 (h1 : bh P G call x A H kn (fun i A H => n i (clear D A) H) kr = T) : l = T := h0.trans ((Lh h hn hD).trans h1)
theorem af6 {c x : Code} {D : Nat} {n : List Value → AH → Option R} (h0 : l = bh P G call c A H kn kx kr) (h : c = .loop x) (hn : n = fun A H => jw P G call x A H kx kr) (hD : aw D n) (h1 : n (clear D A) H = T) : l = T :=
 h0.trans ((af5 h).trans ((O1 hn hD).trans h1))
theorem af7 {x : Code} {D : Nat} {n : List Value → AH → Option R} (h0 : l = jw P G call x A H kx kr) (hn : n = fun A H => jw P G call x A H kx kr) (hD : aw D n)
 (h1 : bh P G call x A H (fun A H => n (clear D A) H) kx kr = T) : l = T := h0.trans ((O0 hn hD).trans h1)
end
abbrev OV := Option (Value × AH)
abbrev u : Value := undef
abbrev KK := List Value → AH → OV
abbrev KX := Nat → List Value → AH → OV
noncomputable abbrev CK (P : Program) (G : List Nat) (call : bE) (c : Code) (kn : KK) (kx : KX) (kr : KK) : KK := fun A H => bh P G call c A H kn kx kr
noncomputable abbrev CL (P : Program) (G : List Nat) (call : bE) (c : Code) (kx : KX) (kr : KK) : KK := fun A H => jw P G call c A H kx kr
abbrev BX (id : Nat) (kn : KK) (kx : KX) : KX := fun i A H => if i = id then kn A H else kx i A H
abbrev gC (D : Nat) (n : KK) : KK := fun A H => n (clear D A) H
abbrev A6 (D : Nat) (n : KX) : KX := fun i A H => n i (clear D A) H
def bD : KX := fun _ _ _ => none
def alB : Nat := 2 ^ 4096 - 1
def ls (l : List Value) (n : Nat) : List Value := l ++ List.replicate n u
section
variable {P : Program} {G : List Nat} {call : bE} {A : List Value} {H : AH} {kn : KK} {kx : KX} {kr : KK} {l T : OV}
theorem aD : ∀ i, aw alB (bD i) := fun _ => Wz
theorem rf {rs : List ResultVar} {D : Nat} (h : SL D rs = true := by kernel_rfl) : aw D (dO P rs) := ab2 h
theorem rc {c : Code} {D Dn Dx Dr : Nat} (hn : aw Dn kn) (hx : ∀ i, aw Dx (kx i)) (hr : aw Dr kr) (h : (zC c D Dn && (Gy D Dx && Gy D Dr)) = true := by kernel_rfl) : aw D (CK P G call c kn kx kr) := by
 simp only [Bool.and_eq_true] at h;exact Ww h.1 hn (fun i => (hx i).le h.2.1) (hr.le h.2.2)
theorem rl {c : Code} {D Dx Dr : Nat} (hx : ∀ i, aw Dx (kx i)) (hr : aw Dr kr) (h : (zC c D D && (Gy D Dx && Gy D Dr)) = true := by kernel_rfl) : aw D (CL P G call c kx kr) := by
 simp only [Bool.and_eq_true] at h;exact Wx h.1 (fun i => (hx i).le h.2.1) (hr.le h.2.2)
theorem rb {D id Dn Dx : Nat} (hn : aw Dn kn) (hx : ∀ i, aw Dx (kx i)) (h : (Gy D Dn && Gy D Dx) = true := by kernel_rfl) : ∀ i, aw D (BX id kn kx i) := by
 simp only [Bool.and_eq_true] at h;exact PR (hn.le h.1) (fun i => (hx i).le h.2)
theorem cd {D : Nat} {n : KK} (h : aw D n) : aw D (gC D n) := Fj h
theorem cx {D : Nat} {n : KX} (h : ∀ i, aw D (n i)) : ∀ i, aw D (A6 D n i) := fun i => Fj (h i)
theorem pt {c : Code} {D : Nat} {n : KK} (h0 : l = bh P G call c A H kn kx kr) (k : Nat) (hD : aw D n) (h1 : bh P G call (Code.pre k c) A H (gC D n) kx kr = T)
 (hn : n = fun A H => bh P G call (Code.post k c) A H kn kx kr := by kernel_rfl) : l = T := ajV h0 hn hD h1
theorem ct {c : Code} (h0 : l = bh P G call c A H kn kx kr) (x y : Code) (e : Operand) {v : Value} {X Y : OV} (hx : bh P G call x A H kn kx kr = X) (hy : bh P G call y A H kn kx kr = Y)
 (h : c = .cond e x y := by kernel_rfl) (he : f8 A e = v := by kernel_rfl) : l = av v X Y := aeE h0 h (XP he hx hy)
theorem bt {c : Code} {D : Nat} {n : KX} (h0 : l = bh P G call c A H kn kx kr) (x : Code) (id : Nat) (hD : ∀ i, aw D (n i)) (h1 : bh P G call x A H kn (A6 D n) kr = T)
 (h : c = .block id x := by kernel_rfl) (hn : n = fun i A H => if i = id then kn A H else kx i A H := by kernel_rfl) : l = T := XA h0 h hn hD h1
theorem li {c : Code} {D : Nat} {n : KK} (h0 : l = bh P G call c A H kn kx kr) (x : Code) (hD : aw D n) (h1 : n (clear D A) H = T) (h : c = .loop x := by kernel_rfl)
 (hn : n = fun A H => jw P G call x A H kx kr := by kernel_rfl) : l = T := af6 h0 h hn hD h1
theorem KN {x : Code} {D : Nat} {n : KK} (h0 : l = jw P G call x A H kx kr) (hD : aw D n) (h1 : bh P G call x A H (gC D n) kx kr = T)
 (hn : n = fun A H => jw P G call x A H kx kr := by kernel_rfl) : l = T := af7 h0 hn hD h1
theorem ht' {id : Nat} (h0 : l = BX id kn kx id A H) (h1 : kn A H = T) : l = T := by rw [h0, ← h1]; simp [BX]
theorem fo {f : Nat} {fn : Func} (hf : P.funcs[f]? = some fn) {args : List Value} {t : OV} {r : Value × AH} (e : QE P G (aF P G) fn.ntmps fn.results.toList (bH fn) args H = t) (h : t = some r)
 (hb : fn.body.isSome = true := by kernel_rfl) (hn : (fn.name == "runtime.NumGoroutine") = false := by kernel_rfl) (hd : lH (bH fn) = none := by kernel_rfl) : aF P G f args H = some r := Nu hf hb hn hd (e.trans h)
end
end Go.Proofs.YtghoamdlcjdfjaaGreatDoor.Gst
namespace Go.Proofs.YtghoamdlcjdfjaaGreatDoor.Gst
open Go Go.RowKit Go.ChangeShapes
set_option linter.unusedSimpArgs false
def gj (H H' : AH) : Prop := H.size ≤ H'.size ∧ ∀ b, b < H.size → H'.get b = H.get b
theorem gj.refl (H : AH) : gj H H := ⟨bI _, fun _ _ => rfl⟩
theorem gj.trans {A B C : AH} (h : gj A B) (k : gj B C) : gj A C := ⟨fy h.1 k.1, fun b hb => by rw [k.2 b (by have := h.1; omega), h.2 b hb]⟩
theorem gj.push (H : AH) (o : AObj) : gj H (H.push o) := ⟨by rw [AH.size_push]; omega, fun b hb => AH.get_push_old hb⟩
theorem gj.get {H H' : AH} (h : gj H H') {b : Nat} {o : AObj} (hb : H.get b = some o) : H'.get b = some o := by rw [h.2 b (AH.lt_of_get hb)]; exact hb
inductive Ty where
 | int (k : IntKind)
 | bool
 | slice (t : Ty)
 | unit
 | pair (a b : Ty)
def Ty.w : Ty → Nat
 | .int _ | .bool | .slice _ => 1
 | .unit => 0
 | .pair a b => a.w + b.w
abbrev Ty.I : Ty → Type
 | .int _ => Int
 | .bool => Bool
 | .slice t => List t.I
 | .unit => Unit
 | .pair a b => a.I × b.I
inductive lG {α : Type} (R : α → List Value → Prop) : List α → List Value → Prop
 | nil : lG R [] []
 | cons {x : α} {l : List α} {c cs : List Value} (h : R x c) (k : lG R l cs) : lG R (x :: l) (c ++ cs)
def Abs (H : AH) : (t : Ty) → t.I → List Value → Prop
 | .int k, n, cs => cs = [.int k n] ∧ (Lit.int k n).wf = true
 | .bool, b, cs => cs = [.bool b]
 | .unit, _, cs => cs = []
 | .pair a b, x, cs => ∃ c1 c2, cs = c1 ++ c2 ∧ Abs H a x.1 c1 ∧ Abs H b x.2 c2
 | .slice t, l, cs => (l = [] ∧ cs = [.slice none 0 0]) ∨ (l = [] ∧ ∃ b, cs = [.slice (some ⟨b, 0, none⟩) 0 0]) ∨
  ∃ b row, H.get b = some (.cells true row) ∧ cs = [.slice (some ⟨b, 0, none⟩) l.length t.w] ∧ lG (Abs H t) l row ∧ l.length ≤ maxLen
theorem lG.mono {α : Type} {R S : α → List Value → Prop} (h : ∀ x c, R x c → S x c) {l : List α} {cs : List Value} (k : lG R l cs) : lG S l cs := by
 induction k with
 | nil => exact .nil
 | cons h1 _ ih => exact .cons (h _ _ h1) ih
theorem Abs.keep {H H' : AH} (k : gj H H') : ∀ (t : Ty) (x : t.I) (cs : List Value), Abs H t x cs → Abs H' t x cs := by
 intro t
 induction t with
 | int k => intro x cs h; exact h
 | bool => intro x cs h; exact h
 | unit => intro x cs h; exact h
 | pair a b iha ihb =>
  intro x cs h;obtain ⟨c1, c2, e, h1, h2⟩ := h;exact ⟨c1, c2, e, iha _ _ h1, ihb _ _ h2⟩
 | slice t ih =>
  intro x cs h
  rcases h with h | h | ⟨b, row, h1, h2, h3, h4⟩
  ·exact .inl h
  ·exact .inr (.inl h)
  ·exact .inr (.inr ⟨b, row, k.get h1, h2, h3.mono ih, h4⟩)
theorem lG.length {α : Type} {R : α → List Value → Prop} {n : Nat} (h : ∀ x c, R x c → c.length = n) {l : List α} {cs : List Value} (k : lG R l cs) : cs.length = l.length * n := by
 induction k with
 | nil => simp
 | cons h1 _ ih => rw [sn, h _ _ h1, ih, List.length_cons, Nat.add_mul]; omega
theorem Abs.length {H : AH} : ∀ (t : Ty) (x : t.I) (cs : List Value), Abs H t x cs → cs.length = t.w := by
 intro t
 induction t with
 | int k => intro x cs h; rw [h.1]; rfl
 | bool => intro x cs h; have h : cs = _ := h; rw [h]; rfl
 | unit => intro x cs h; have h : cs = _ := h; rw [h]; rfl
 | pair a b iha ihb =>
  intro x cs h;obtain ⟨c1, c2, e, h1, h2⟩ := h;rw [e, sn, iha _ _ h1, ihb _ _ h2]; rfl
 | slice t ih =>
  intro x cs h
  rcases h with h | ⟨_, b, h⟩ | ⟨b, row, h1, h2, h3, h4⟩
  ·rw [h.2]; rfl
  ·rw [h]; rfl
  ·rw [h2]; rfl
def CG : (t : Ty) → t.I → Prop
 | .int _, _ => True
 | .bool, _ => True
 | .unit, _ => True
 | .pair a b, x => CG a x.1 ∧ CG b x.2
 | .slice t, l => l.length ≤ reachBytes ∧ ∀ x ∈ l, CG t x
def wOK {Hd : Type} (P : Program) (t : TypeId) (d : DataW Hd) : Prop := ∀ n ∈ DataW.weights P t d, n ≤ reachBytes
theorem th {Hd : Type} {P : Program} {e : TypeId} {d : DataW Hd} {n : Nat} : ∀ {l : List (DataW Hd)}, d ∈ l → n ∈ DataW.weights P e d → n ∈ DataW.weightsAll P e l := by
 intro l
 induction l with
 | nil => intro h; cases h
 | cons x l ih =>
  intro h hn;rw [DataW.weightsAll, List.mem_append]
  rcases vj.1 h with rfl | h
  ·exact .inl hn
  ·exact .inr (ih h hn)
theorem B8 {Hd : Type} {P : Program} {n : Nat} : ∀ {ts : List TypeId} {ds : List (DataW Hd)} {i : Nat} {t : TypeId} {d : DataW Hd}, ts[i]? = some t → ds[i]? = some d → n ∈ DataW.weights P t d → n ∈ DataW.weightsEach P ts ds := by
 intro ts
 induction ts with
 | nil => intro ds i t d h; simp at h
 | cons t0 ts ih =>
  intro ds i t d h1 h2 hn
  cases ds with
  | nil => simp at h2
  | cons d0 ds =>
   rw [DataW.weightsEach, List.mem_append]
   cases i with
   | zero =>
    simp at h1 h2;subst h1; subst h2;exact .inl hn
   | succ i => exact .inr (ih (by simpa using h1) (by simpa using h2) hn)
def ri (P : Program) : Ty → (TypeId → Bool) × (List Field → Nat → Bool)
 | .int k => (fun t => match P.underlying t with | some (.int k') => k' == k && P.cellsOf t == 1 | _ => false, fun _ _ => false)
 | .bool => (fun t => match P.underlying t with | some .bool => P.cellsOf t == 1 | _ => false, fun _ _ => false)
 | .slice ty => (fun t => match P.underlying t with | some (.slice e) => (ri P ty).1 e && P.cellsOf e == ty.w && decide (0 < ty.w ∧ 0 < P.bytesOf e) && P.cellsOf t == 1 | _ => false, fun _ _ => false)
 | .unit => (fun _ => false, fun fs _ => fs.isEmpty)
 | .pair a b =>
  let F : List Field → Nat → Bool := fun fs off => match fs with
   | f :: fs => f.offset == off && (ri P a).1 f.type && P.cellsOf f.type == a.w && (ri P b).2 fs (off + a.w)
   | [] => false
  (fun t => match P.underlying t with | some (.struct fs) => P.cellsOf t == a.w + b.w && F fs.toList 0 | _ => false, F)
section
variable {Hd : Type} {enc : TypeId × Value → Hd} {P : Program} {w : World} {held : Bool}
theorem Rel.pushRo {B : Nat} {w0 : World} {ρ : bQ} {H : AH} (h : Rel P w0 B ρ H w) {row : List Value} {c d sz : Nat} (hc : c < w.heap.size) (hcB : c < B) (hor : ru P ρ d sz (.cells true row) w.heap[c]?) :
 Rel P w0 B (ρ.upd H.size (c, d, sz)) (H.push (.cells true row)) w := by
 have hnone : ρ H.size = none := by
  cases hn : ρ H.size with
  | none => rfl
  | some x => have := h.dom _ _ hn; omega
 have hle := bQ.upd_le (x := (c, d, sz)) hnone
 have key : ∀ b1 o1, (H.push (.cells true row)).get b1 = some o1 → (b1 = H.size ∧ o1 = .cells true row) ∨ (b1 < H.size ∧ H.get b1 = some o1) := by
  intro b1 o1 h1;rw [AH.get_push] at h1
  by_cases hb1 : b1 = H.size
  ·rw [if_pos hb1] at h1; exact .inl ⟨hb1, (gr h1).symm⟩
  ·rw [if_neg hb1] at h1; exact .inr ⟨AH.lt_of_get h1, h1⟩
 have old : ∀ {b1 c1 d1 sz1}, b1 < H.size → ρ.upd H.size (c, d, sz) b1 = some (c1, d1, sz1) → ρ b1 = some (c1, d1, sz1) := by
  intro b1 c1 d1 sz1 hb1 hx
  rwa [bQ.upd_ne (by omega)] at hx
 have new : ∀ {c1 d1 sz1}, ρ.upd H.size (c, d, sz) H.size = some (c1, d1, sz1) → c1 = c ∧ d1 = d ∧ sz1 = sz := by
  intro c1 d1 sz1 hx;rw [bQ.upd_same] at hx;cases hx;exact ⟨rfl, rfl, rfl⟩
 refine ⟨h.base, h.below, ?_, ?_, ?_, ?_, ?_, ?_⟩
 ·intro b1 x hx
  rw [AH.size_push]
  by_cases hb1 : b1 = H.size
  ·omega
  ·rw [bQ.upd_ne hb1] at hx; have := h.dom b1 x hx; omega
 ·intro b1 c1 d1 sz1 hx
  by_cases hb1 : b1 = H.size
  ·subst hb1
   obtain ⟨rfl, _, _⟩ := new hx;exact hc
  ·rw [bQ.upd_ne hb1] at hx; exact h.blk b1 c1 d1 sz1 hx
 ·intro b1 c1 d1 sz1 o1 hx h1
  rcases key b1 o1 h1 with ⟨rfl, rfl⟩ | ⟨hb1, h1⟩
  ·obtain ⟨rfl, rfl, rfl⟩ := new hx
   exact hor.mono hle
  ·exact (h.obj b1 c1 d1 sz1 o1 (old hb1 hx) h1).mono hle
 ·intro b1 c1 d1 sz1 o1 hx h1 hrw
  rcases key b1 o1 h1 with ⟨rfl, rfl⟩ | ⟨hb1, h1⟩
  ·cases hrw
  ·exact h.own b1 c1 d1 sz1 o1 (old hb1 hx) h1 hrw
 ·intro b1 c1 d1 sz1 cs1 hx h1
  rcases key b1 _ h1 with ⟨rfl, _⟩ | ⟨hb1, h1⟩
  ·obtain ⟨rfl, _, _⟩ := new hx
   exact hcB
  ·exact h.ro b1 c1 d1 sz1 cs1 (old hb1 hx) h1
 ·intro b1 b2 c1 d1 d2 sz1 sz2 o1 o2 hx1 hx2 h1 h2 hr1 hr2
  rcases key b1 o1 h1 with ⟨rfl, rfl⟩ | ⟨hb1, h1⟩
  ·cases hr1
  ·rcases key b2 o2 h2 with ⟨rfl, rfl⟩ | ⟨hb2, h2⟩
   ·cases hr2
   ·exact h.inj b1 b2 c1 d1 d2 sz1 sz2 o1 o2 (old hb1 hx1) (old hb2 hx2) h1 h2 hr1 hr2
theorem MM {B : Nat} {w0 : World} {ρ : bQ} {H : AH} (h : Rel P w0 B ρ H w) (x : Nat × Nat × Nat) : ∀ b y, ρ b = some y → ρ.upd H.size x b = some y :=
 bQ.upd_le (by
  cases hn : ρ H.size with
  | none => rfl
  | some x => have := h.dom _ _ hn; omega)
def Got (P : Program) (w : World) (ρ : bQ) (H : AH) (ty : Ty) (cs : List Value) (ρ' : bQ) (H' : AH) : Prop :=
 ∃ x avs, Rel P w w.heap.size ρ' H' w ∧ (∀ b y, ρ b = some y → ρ' b = some y) ∧ gj H H' ∧ LRel P ρ' avs cs ∧ Abs H' ty x avs ∧ CG ty x
theorem Ag {fuel : Nat} {t : TypeId} {cs : List Value} {x : DataW Hd × List MemPlace} (h : DataW.trod enc P w 0 (fun _ => true) held fuel t cs = some x) : ∃ n, fuel = n + 1 := by
 cases fuel with
 | zero => simp [DataW.trod] at h
 | succ n => exact ⟨n, rfl⟩
theorem Te {ty : Ty} {e : TypeId} {n : Nat} (ih : ∀ (cs : List Value) (x : DataW Hd × List MemPlace) (ρ : bQ) (H : AH), Rel P w w.heap.size ρ H w → DataW.trod enc P w 0 (fun _ => true) held n e cs = some x → wOK P e x.1 → ∃ ρ' H', Got P w ρ H ty cs ρ' H')
 (a : Addr) : ∀ (m i : Nat) (ρ : bQ) (H : AH), Rel P w w.heap.size ρ H w → (∀ j, i ≤ j → j < i + m → ∃ y, (w.cells? 0 (a.add (j * ty.w)) ty.w).bind (DataW.trod enc P w 0 (fun _ => true) held n e) = some y ∧ wOK P e y.1) →
  ∃ ρ' H' l row cc, Rel P w w.heap.size ρ' H' w ∧ (∀ b y, ρ b = some y → ρ' b = some y) ∧ gj H H' ∧ l.length = m ∧ lG (Abs H' ty) l row ∧ LRel P ρ' row cc ∧ (∀ k, k < m * ty.w → w.cell? (a.add (i * ty.w + k)) = cc[k]?) ∧ cc.length = m * ty.w ∧ ∀ x ∈ l, CG ty x := by
 intro m
 induction m with
 | zero =>
  intro i ρ H hR _;exact ⟨ρ, H, [], [], [], hR, fun _ _ h => h, gj.refl H, rfl, .nil, LRel.nil, fun k hk => by omega, by simp, fun x hx => by cases hx⟩
 | succ m ihm =>
  intro i ρ H hR hel;obtain ⟨y, hy, hwy⟩ := hel i (bI _) (by omega);obtain ⟨cs, hcs, hy⟩ := aI.1 hy;obtain ⟨ρ1, H1, x, avs, hR1, hle1, hk1, hl1, ha1, hs1⟩ := ih cs y ρ H hR hy hwy;obtain ⟨ρ2, H2, l, row, cc, hR2, hle2, hk2, hlen, hrow, hl2, hcell, hcl, hs2⟩ := ihm (i + 1) ρ1 H1 hR1 (fun j h1 h2 => hel j (by omega) (by omega));obtain ⟨_, hcsl, hcsg⟩ := World.cells?_some hcs;refine ⟨ρ2, H2, x :: l, avs ++ row, cs ++ cc, hR2, fun b y h => hle2 b y (hle1 b y h), hk1.trans hk2, by simp [hlen], .cons (Abs.keep hk2 ty x avs ha1) hrow, (hl1.mono hle2).append hl2, ?_, ?_, ?_⟩
  ·intro k hk
   have hmul : (m + 1) * ty.w = ty.w + m * ty.w := by rw [Nat.add_mul]; omega
   have hmul2 : (i + 1) * ty.w = i * ty.w + ty.w := by rw [Nat.add_mul]; omega
   by_cases hkw : k < ty.w
   ·rw [List.getElem?_append_left (by omega), ← hcsg k hkw]
    congr 1
    unfold Addr.add
    repeat' split
    all_goals first | rfl | omega | (simp; done) | (simp; omega)
   ·rw [List.getElem?_append_right (by omega), hcsl, ← hcell (k - ty.w) (by omega), hmul2]
    congr 2
    omega
  ·rw [sn, hcsl, hcl, Nat.add_mul]; omega
  ·intro z hz
   rcases vj.1 hz with rfl | hz
   ·exact hs1
   ·exact hs2 z hz
theorem acW : ∀ (ty : Ty),
 (∀ (t : TypeId), (ri P ty).1 t = true → ∀ (fuel : Nat) (cs : List Value) (x : DataW Hd × List MemPlace) (ρ : bQ) (H : AH), Rel P w w.heap.size ρ H w → DataW.trod enc P w 0 (fun _ => true) held fuel t cs = some x → wOK P t x.1 → ∃ ρ' H', Got P w ρ H ty cs ρ' H') ∧
 (∀ (fs : List Field) (off : Nat), (ri P ty).2 fs off = true → ∀ (fuel : Nat) (cs : List Value) (ρ : bQ) (H : AH), Rel P w w.heap.size ρ H w → cs.length = off + ty.w →
  (∀ f ∈ fs, ∃ y, DataW.trod enc P w 0 (fun _ => true) held fuel f.type ((cs.drop f.offset).take (P.cellsOf f.type)) = some y ∧ wOK P f.type y.1) → ∃ ρ' H', Got P w ρ H ty (cs.drop off) ρ' H') := by
 intro ty
 induction ty with
 | int k =>
  refine ⟨?_, fun fs off h => by cases h⟩;intro t ht fuel cs x ρ H hR h hwx;obtain ⟨n, rfl⟩ := Ag h;simp only [ri] at ht
  split at ht
  ·rename_i k' hu
   simp only [Bool.and_eq_true, beq_iff_eq] at ht;obtain ⟨rfl, _⟩ := ht;obtain ⟨n, rfl, _, hw⟩ := DataW.trod_int hu h;exact ⟨ρ, H, n, [.int k' n], hR, fun _ _ h => h, gj.refl H, LRel.of_all rfl, ⟨rfl, hw⟩, trivial⟩
  ·cases ht
 | bool =>
  refine ⟨?_, fun fs off h => by cases h⟩;intro t ht fuel cs x ρ H hR h hwx;obtain ⟨n, rfl⟩ := Ag h;simp only [ri] at ht
  split at ht
  ·rename_i hu
   obtain ⟨b, rfl, _⟩ := DataW.trod_bool hu h;exact ⟨ρ, H, b, [.bool b], hR, fun _ _ h => h, gj.refl H, LRel.of_all rfl, rfl, trivial⟩
  ·cases ht
 | unit =>
  refine ⟨fun t h => by (cases h), ?_⟩;intro fs off hfs fuel cs ρ H hR hl h;refine ⟨ρ, H, (), [], hR, fun _ _ h => h, gj.refl H, ?_, rfl, trivial⟩;have : cs.drop off = [] := List.drop_eq_nil_of_le (by simp [Ty.w] at hl; omega);rw [this]; exact LRel.nil
 | slice ty ih =>
  refine ⟨?_, fun fs off h => by cases h⟩;intro t ht fuel cs x ρ H hR h hwx;simp only [ri] at ht
  split at ht
  ·rename_i e hu
   simp only [Bool.and_eq_true, beq_iff_eq, decide_eq_true_eq] at ht;obtain ⟨⟨⟨ht, he⟩, hw, hby⟩, _⟩ := ht
   rcases DataW.trod_slice hu h with ⟨rfl, _⟩ | ⟨a, len, cap, elems, rest, n, rfl, rfl, hx, _, hlc, hcm, hlen, hel, hsp, _⟩
   ·exact ⟨ρ, H, [], [.slice none 0 0], hR, fun _ _ h => h, gj.refl H, LRel.of_all rfl, .inl ⟨rfl, rfl⟩, Nat.zero_le _, fun x hx => by cases hx⟩
   ·have hwt : DataW.weights P t x.1 = (elems.length + rest.length) * P.bytesOf e :: (DataW.weightsAll P e (elems.map (·.1)) ++ DataW.weightsAll P e (rest.map (·.1))) := by
     rw [hx];unfold DataW.weights;rw [hu];simp
    have hreach : len ≤ reachBytes := by
     have h1 := hwx _ (by rw [hwt]; exact List.mem_cons_self)
     have h2 : len + rest.length ≤ (elems.length + rest.length) * P.bytesOf e := by
      rw [hlen]
      exact Nat.le_mul_of_pos_right _ hby
     omega
    have hwe : ∀ (y : DataW Hd × List MemPlace), (y ∈ elems ∨ y ∈ rest) → wOK P e y.1 := by
     intro y hy n hn;refine hwx n ?_;rw [hwt, vj, List.mem_append]
     rcases hy with hy | hy
     ·exact .inr (.inl (th (List.mem_map.2 ⟨y, hy, rfl⟩) hn))
     ·exact .inr (.inr (th (List.mem_map.2 ⟨y, hy, rfl⟩) hn))
    rw [he] at hel hsp
    by_cases hc0 : cap = 0
    ·subst hc0
     obtain rfl : len = 0 := by omega
     exact ⟨ρ, H, [], [.slice (some ⟨0, 0, none⟩) 0 0], hR, fun _ _ h => h, gj.refl H, LRel.cons .empty LRel.nil, .inr (.inl ⟨rfl, 0, rfl⟩), Nat.zero_le _, fun x hx => by cases hx⟩
    ·have all : ∀ j, 0 ≤ j → j < 0 + cap → ∃ y, (w.cells? 0 (a.add (j * ty.w)) ty.w).bind (DataW.trod enc P w 0 (fun _ => true) held n e) = some y ∧ wOK P e y.1 := by
      intro j _ hj
      by_cases hjl : j < len
      ·rw [hel j hjl]
       exact ⟨elems[j]'(by omega), cS (by omega), hwe _ (.inl (Mb _))⟩
      ·obtain ⟨hr1, hr2⟩ := hsp rfl
       have := hr2 (j - len) (by omega);rw [show len + (j - len) = j from by omega] at this;rw [this];exact ⟨rest[j - len]'(by omega), cS (by omega), hwe _ (.inr (Mb _))⟩
     -- all cells of its room are there
     obtain ⟨_, _, _, _, cca, _, _, _, _, _, _, hca, hcal, _⟩ := Te (fun cs x ρ H => ih.1 e ht n cs x ρ H) a cap 0 ρ H hR all;obtain ⟨ρ1, H1, l, row, cc, hR1, hle1, hk1, hll, hrow, hl1, hcell, hcl, hsm⟩ := Te (fun cs x ρ H => ih.1 e ht n cs x ρ H) a len 0 ρ H hR (fun j h1 h2 => all j h1 (by omega));have hpos : 0 < cap * ty.w := Nat.mul_pos (by omega) hw;have h0 := hca 0 hpos;have hsome : ∃ v, cca[0]? = some v := ⟨cca[0]'(by omega), cS (by omega)⟩;obtain ⟨v0, hv0⟩ := hsome;rw [hv0] at h0
     have hadd0 : a.add (0 * ty.w + 0) = a := by simp [Addr.add]
     rw [hadd0] at h0;unfold World.cell? at h0
     split at h0
     ·rename_i c el fz hblk
      split at h0
      ·cases h0
      ·rename_i hspot
       obtain ⟨ab, ao, as'⟩ := a
       have : as' = none := by cases as' with | none => rfl | some _ => simp at hspot
       subst this
       have cellsAt : ∀ k, k < cap * ty.w → c[ao + k]? = cca[k]? := by
        intro k hk;have := hca k hk;rw [show 0 * ty.w + k = k from by omega, Addr.add_lit] at this;unfold World.cell? at this;simp only [hblk, Option.isSome_none] at this
        simpa using this
       have hfit : ao + cap * ty.w ≤ c.size := by
        have := cellsAt (cap * ty.w - 1) (by omega);rw [cS (by omega)] at this;have := (Array.getElem?_eq_some_iff.1 this).1;omega
       have hsub : len * ty.w ≤ cap * ty.w := Nat.mul_le_mul_right _ hlc
       have hrl : row.length = len * ty.w := by rw [hl1.1, hcl]
       have hccs : (c.toList.drop ao).take row.length = cc := by
        apply List.ext_getElem?;intro k;rw [hrl, List.getElem?_take]
        by_cases hk : k < len * ty.w
        ·rw [if_pos hk, List.getElem?_drop]
         have h1 := hcell k hk;rw [show 0 * ty.w + k = k from by omega, Addr.add_lit] at h1;unfold World.cell? at h1;simp only [hblk, Option.isSome_none] at h1;rw [← h1];simp
        ·rw [if_neg hk, List.getElem?_eq_none (by omega)]
       have hblk' : w.heap[ab]? = some (.cells c el fz) := hblk;have hab : ab < w.heap.size := (Array.getElem?_eq_some_iff.1 hblk').1;have hp := hR1.pushRo (row := row) (c := ab) (d := ao) (sz := c.size) hab hab ⟨c, el, fz, hblk', rfl, by omega, (fun h => by cases h), by rw [hccs]; exact hl1⟩;have hkp := gj.push H1 (.cells true row);refine ⟨_, _, l, [.slice (some ⟨H1.size, 0, none⟩) l.length ty.w], hp, fun b y h => MM hR1 _ b y (hle1 b y h), hk1.trans hkp, LRel.cons ?_ LRel.nil, .inr (.inr ⟨H1.size, row, AH.get_push_new _ _, rfl, hrow.mono (Abs.keep hkp ty), by omega⟩), by rw [hll]; exact hreach, hsm⟩;rw [hll];have := VRel.slice (P := P) (ρ := ρ1.upd H1.size (ab, ao, c.size)) (b := H1.size) (o := 0) (n := len) (e := ty.w) (c := ab) (d := ao) (sz := c.size) (k := cap) (bQ.upd_same ..) (by omega) hlc hw
       simpa using this
     ·cases h0
  ·cases ht
 | pair a b iha ihb =>
  have fields : ∀ (fs : List Field) (off : Nat), (ri P (.pair a b)).2 fs off = true → ∀ (fuel : Nat) (cs : List Value) (ρ : bQ) (H : AH), Rel P w w.heap.size ρ H w → cs.length = off + (a.w + b.w) →
   (∀ f ∈ fs, ∃ y, DataW.trod enc P w 0 (fun _ => true) held fuel f.type ((cs.drop f.offset).take (P.cellsOf f.type)) = some y ∧ wOK P f.type y.1) → ∃ ρ' H', Got P w ρ H (.pair a b) (cs.drop off) ρ' H' := by
   intro fs off hfs fuel cs ρ H hR hl h;simp only [ri] at hfs
   cases fs with
   | nil => cases hfs
   | cons f fs =>
    simp only [Bool.and_eq_true, beq_iff_eq] at hfs;obtain ⟨⟨⟨h1, h2⟩, h3⟩, h4⟩ := hfs;obtain ⟨y, hy, hwy⟩ := h f (by simp);rw [h1, h3] at hy;obtain ⟨ρ1, H1, x1, a1, hR1, hle1, hk1, hl1, ha1, hs1⟩ := iha.1 f.type h2 fuel _ y ρ H hR hy hwy;obtain ⟨ρ2, H2, x2, a2, hR2, hle2, hk2, hl2, ha2, hs2⟩ := ihb.2 fs (off + a.w) h4 fuel cs ρ1 H1 hR1 (by omega) (fun g hg => h g (by simp [hg]));refine ⟨ρ2, H2, (x1, x2), a1 ++ a2, hR2, fun b y h => hle2 b y (hle1 b y h), hk1.trans hk2, ?_, ⟨a1, a2, rfl, Abs.keep hk2 a x1 a1 ha1, ha2⟩, hs1, hs2⟩
    have e : cs.drop off = (cs.drop off).take a.w ++ cs.drop (off + a.w) := by
     rw [← List.drop_drop];exact (List.take_append_drop a.w (cs.drop off)).symm
    rw [e];exact (hl1.mono hle2).append hl2
  refine ⟨?_, fields⟩;intro t ht fuel cs x ρ H hR h hwx;obtain ⟨n, rfl⟩ := Ag h;have ht' := ht;simp only [ri] at ht
  split at ht
  ·rename_i fs hu
   simp only [Bool.and_eq_true, beq_iff_eq] at ht;obtain ⟨xs, n', _, hxe, hlen, hxl, hxs⟩ := DataW.trod_struct hu h
   have := fields fs.toList 0 ht.2 n' cs ρ H hR (by rw [hlen, ht.1]; simp) (fun f hf => by
    obtain ⟨i, hi, rfl⟩ := List.mem_iff_getElem.1 hf;have := hxs i fs.toList[i] (by simp);rw [this]
    have hix : i < xs.length := by rw [hxl]; simpa using hi
    refine ⟨xs[i]'hix, cS _, fun n hn => hwx n ?_⟩;rw [hxe];unfold DataW.weights;rw [hu]
    exact B8 (i := i) (by rw [Bp, cS hi]; rfl) (by rw [Bp, cS hix]; rfl) hn)
   simpa using this
  ·cases ht
end
def valOf : Ty → List Value → Value
 | .pair _ _, cs => .agg cs.toArray
 | .unit, cs => .agg cs.toArray
 | _, cs => cs.headD undef
abbrev Xc : List Ty → Type
 | [] => Unit
 | t :: ts => t.I × Xc ts
def tj (H : AH) : (ts : List Ty) → Xc ts → List Value → Prop
 | [], _, vs => vs = []
 | t :: ts, x, vs => ∃ cs rest, vs = valOf t cs :: rest ∧ Abs H t x.1 cs ∧ tj H ts x.2 rest
theorem tj.keep {H H' : AH} (k : gj H H') : ∀ (ts : List Ty) (x : Xc ts) (vs : List Value), tj H ts x vs → tj H' ts x vs := by
 intro ts
 induction ts with
 | nil => intro x vs h; exact h
 | cons t ts ih =>
  intro x vs h;obtain ⟨cs, rest, e, h1, h2⟩ := h;exact ⟨cs, rest, e, Abs.keep k t _ _ h1, ih _ _ h2⟩
def yY : (ts : List Ty) → Xc ts → Prop
 | [], _ => True
 | t :: ts, x => CG t x.1 ∧ yY ts x.2
def tw (P : Program) : List Ty → List TypeId → Bool
 | [], [] => true
 | ty :: tys, t :: ts => (ri P ty).1 t && P.readableRec t && decide (t < P.types.size) && tw P tys ts
 | _, _ => false
section
variable {Hd : Type} {enc : TypeId × Value → Hd} {P : Program} {w : World} {held : Bool}
theorem ad7 {ty : Ty} {t : TypeId} (ht : (ri P ty).1 t = true) {v : Value} {d : DataW Hd} {ps : List MemPlace} {r : Reach} {b0 : Nat} (hval : Value.okWide P w r b0 t v) (h : DataW.Trod enc P w 0 (fun _ => true) held t v d ps) (hwd : wOK P t d)
 {ρ : bQ} {H : AH} (hR : Rel P w w.heap.size ρ H w) : ∃ ρ' H' x avs, Rel P w w.heap.size ρ' H' w ∧ (∀ b y, ρ b = some y → ρ' b = some y) ∧ gj H H' ∧ VRel P ρ' (valOf ty avs) v ∧ Abs H' ty x avs ∧ CG ty x := by
 obtain ⟨fuel, h⟩ := h;obtain ⟨ρ', H', x, avs, h1, h2, h3, h4, h5, h6⟩ := (acW (enc := enc) (P := P) (w := w) (held := held) ty).1 t ht fuel _ _ ρ H hR h hwd;refine ⟨ρ', H', x, avs, h1, h2, h3, ?_, h5, h6⟩;have hlen := Abs.length ty x avs h5
 have one : ∀ (hw : ty.w = 1) (hva : ∀ cs, v ≠ .agg cs), VRel P ρ' (avs.headD undef) v := by
  intro hw hva
  have hc : v.cells.toList = [v] := by
   cases v <;> first | rfl | exact absurd rfl (hva _)
  rw [hc] at h4
  match avs, hlen with
  | [a], _ => exact h4.2 0 a v rfl rfl
  | [], hl => rw [hw] at hl; cases hl
  | a :: b :: l, hl => rw [hw] at hl; simp at hl
 cases ty with
 | int k =>
  refine one rfl (fun cs e => ?_);subst e;simp only [ri] at ht
  split at ht
  ·rename_i hu
   unfold Value.okWide at hval;rw [hu] at hval;unfold Cell.okWide at hval;rw [hu] at hval;unfold Cell.ok at hval;rw [hu] at hval;exact hval
  ·cases ht
 | bool =>
  refine one rfl (fun cs e => ?_);subst e;simp only [ri] at ht
  split at ht
  ·rename_i hu
   unfold Value.okWide at hval;rw [hu] at hval;unfold Cell.okWide at hval;rw [hu] at hval;unfold Cell.ok at hval;rw [hu] at hval;exact hval
  ·cases ht
 | slice e =>
  refine one rfl (fun cs e => ?_);subst e;simp only [ri] at ht
  split at ht
  ·rename_i hu
   unfold Value.okWide at hval;rw [hu] at hval;unfold Cell.okWide at hval;rw [hu] at hval;unfold Cell.ok at hval;rw [hu] at hval;exact hval
  ·cases ht
 | unit => simp only [ri] at ht; cases ht
 | pair a b =>
  simp only [ri] at ht
  split at ht
  ·rename_i fs hu
   unfold Value.okWide at hval;rw [hu] at hval;obtain ⟨cs, rfl, _⟩ := hval;have h4 : LRel P ρ' avs cs.toList := h4;exact .agg (by simpa using h4.1) (fun i x y hx hy => h4.2 i x y (by simpa using hx) (by simpa using hy))
  ·cases ht
theorem Xs : ∀ (tys : List Ty) (ts : List TypeId) (vs : List Value) (ds : List (DataW Hd)) (ps : List MemPlace), tw P tys ts = true → (∀ (j : Nat) t v, ts[j]? = some t → vs[j]? = some v → ∃ r b0, Value.okWide P w r b0 t v) →
 DataW.TrodAll enc P w 0 (fun _ => true) held ts vs ds ps → (∀ n ∈ DataW.weightsEach P ts ds, n ≤ reachBytes) → ∀ (ρ : bQ) (H : AH), Rel P w w.heap.size ρ H w →
 ∃ ρ' H' x avs, Rel P w w.heap.size ρ' H' w ∧ (∀ b y, ρ b = some y → ρ' b = some y) ∧ gj H H' ∧ LRel P ρ' avs vs ∧ tj H' tys x avs ∧ yY tys x := by
 intro tys
 induction tys with
 | nil =>
  intro ts vs ds ps hc hval h hwd ρ H hR
  cases ts with
  | cons t ts => cases hc
  | nil =>
   obtain ⟨rfl, _, _⟩ := trodAll_nil h;exact ⟨ρ, H, (), [], hR, fun _ _ h => h, gj.refl H, LRel.nil, rfl, trivial⟩
 | cons ty tys ih =>
  intro ts vs ds ps hc hval h hwd ρ H hR
  cases ts with
  | nil => cases hc
  | cons t ts =>
   simp only [tw, Bool.and_eq_true] at hc;obtain ⟨⟨⟨hc1, _⟩, _⟩, hc2⟩ := hc;obtain ⟨v, vs', d, ds', p, q, rfl, rfl, rfl, hd, hrest⟩ := trodAll_cons h;obtain ⟨r, b0, hv0⟩ := hval 0 t v rfl rfl;obtain ⟨ρ1, H1, x1, a1, hR1, hle1, hk1, hv1, ha1, hs1⟩ := ad7 hc1 hv0 hd (fun n hn => hwd n (by rw [DataW.weightsEach]; exact List.mem_append_left _ hn)) hR;obtain ⟨ρ2, H2, x2, a2, hR2, hle2, hk2, hl2, ha2, hs2⟩ := ih ts vs' ds' q hc2 (fun j t v h1 h2 => hval (j + 1) t v (by simpa using h1) (by simpa using h2)) hrest (fun n hn => hwd n (by rw [DataW.weightsEach]; exact List.mem_append_right _ hn)) ρ1 H1 hR1;exact ⟨ρ2, H2, (x1, x2), valOf ty a1 :: a2, hR2, fun b y h => hle2 b y (hle1 b y h), hk1.trans hk2, LRel.cons (hv1.mono hle2) hl2, ⟨a1, a2, rfl, Abs.keep hk2 ty x1 a1 ha1, ha2⟩, hs1, hs2⟩
theorem TS (hl : laidOutB P = true) {W' : World} (hb : Below w.heap.size w W') : ∀ (tys : List Ty) (ts : List TypeId) (vs : List Value) (ds : List (DataW Hd)) (ps : List MemPlace), tw P tys ts = true → (∀ x ∈ ps, x.block < w.heap.size) →
 DataW.TrodAll enc P w 0 (fun _ => true) true ts vs ds ps → DataW.TrodAll enc P W' 0 (fun b => decide (b < w.heap.size)) true ts vs ds ps := by
 intro tys
 induction tys with
 | nil =>
  intro ts vs ds ps hc hlt h
  cases ts with
  | cons t ts => cases hc
  | nil =>
   obtain ⟨rfl, rfl, rfl⟩ := trodAll_nil h;exact trodAll_mk0
 | cons ty tys ih =>
  intro ts vs ds ps hc hlt h
  cases ts with
  | nil => cases hc
  | cons t ts =>
   simp only [tw, Bool.and_eq_true, decide_eq_true_eq] at hc;obtain ⟨⟨⟨_, hc1⟩, hc3⟩, hc2⟩ := hc;obtain ⟨v, vs', d, ds', p, q, rfl, rfl, rfl, hd, hrest⟩ := trodAll_cons h;exact ⟨p, q, Below.trod hl hc1 hc3 hd hb (fun x hx => hlt x (by simp [hx])), ih ts vs' ds' q hc2 (fun x hx => hlt x (by simp [hx])) hrest, rfl⟩
theorem law_post (hm : P.follows .mixedOrders = true) (hl : laidOutB P = true) {G : List Nat} {f : Nat} {fn : Func} {s : ChangeSpec} {tys : List Ty} (hc : tw P tys fn.params.toList = true)
 {tb : TypeId} (hres : fn.resultTypes = #[tb]) (hb : P.underlying tb = some .bool) (hvars : s.vars = [])
 {args : Array Value} {ds gs : List (DataW Hd)} {before : List MemPlace} (hval : ∀ (j : Nat) t v, fn.params[j]? = some t → args[j]? = some v → ∃ r b0, Value.okWide P w r b0 t v)
 (hW : DataW.Whole enc P fn.params.toList s.vars false w args.toList ds gs before) (hspec : s.fn Hd (ds ++ gs) = { results := [.lit (.bool true)], args := ds })
 {ρ0 : bQ} {H0 : AH} (hR : Rel P w w.heap.size ρ0 H0 w) (hG : GlobRel ρ0 G)
 (hwt : (DataW.weightsEach P fn.params.toList ds).all (· ≤ reachBytes) = true)
 (run : ∀ (x : Xc tys) (avs : List Value) (H : AH), gj H0 H → tj H tys x avs → yY tys x → ∃ H', aF P G f avs H = some (.bool true, H')) :
 Calls P f args w fun e w' => ∃ v, e = .returned v ∧ s.post enc P fn false true false false w args v w' := by
 have hW' := hW;obtain ⟨p, q, hA, hV, rfl, hfz, hnd⟩ := hW;rw [hvars] at hV;obtain ⟨rfl, rfl⟩ := trodVars_none hV;obtain ⟨ρ1, H1, x, avs, hR1, hle1, hk1, hl1, ha1, hs1⟩ := Xs tys fn.params.toList args.toList ds p hc (fun j t v h1 h2 => hval j t v (by simpa using h1) (by simpa using h2)) hA (fun n hn => by simpa using List.all_eq_true.1 hwt n hn) ρ0 H0 hR;obtain ⟨H', hrun⟩ := run x avs H1 hk1 ha1 hs1;have hG1 : GlobRel ρ1 G := fun g hg => let ⟨sz, h⟩ := hG g hg; ⟨sz, hle1 _ _ h⟩;have hcall := ((akY (P := P) (G := G) hm).1 f avs H1 _ H' hrun).2 w w.heap.size ρ1 w args.toList hR1 hG1 hl1;rw [show args.toList.toArray = args from by simp] at hcall;refine hcall.mono fun e w' ⟨v', ρ', he, hv, hext, hR'⟩ => ?_
 have hv : v' = .bool true := by
  cases hv with
  | lit h => rfl
 subst hv;subst he
 have hlt : ∀ y ∈ p, y.block < w.heap.size := fun y hy => by
  have := hW'.lt y (by simp [hy])
  simpa using this
 refine ⟨_, rfl, ds, [], p ++ [], [], p, [], hW', ?_, ?_, ?_, ?_, fun h => by cases h⟩
 ·rw [hspec, hres]
  exact ⟨[], [], shut_bool hb true, trodAll_mk0, rfl⟩
 ·rw [hspec]
  exact TS hl hR'.below tys _ _ _ _ hc hlt hA
 ·rw [hvars, hspec]
  rfl
 ·exact hR'.below.frame _
end
theorem rel_none (P : Program) (w : World) : Rel P w w.heap.size (fun _ => none) ⟨[]⟩ w where
 base := bI _
 below := Below.refl _ _
 dom := fun b x h => by cases h
 blk := fun b c d sz h => by cases h
 obj := fun b c d sz o h => by cases h
 own := fun b c d sz o h => by cases h
 ro := fun b c d sz cs h => by cases h
 inj := fun b b' c d d' sz sz' o o' h => by cases h
end Go.Proofs.YtghoamdlcjdfjaaGreatDoor.Gst
namespace Go.Proofs.YtghoamdlcjdfjaaGreatDoor.Gst
open Go Go.RowKit
set_option maxRecDepth 100000
set_option linter.unusedVariables false
set_option maxHeartbeats 1000000
abbrev TV : Nat := 65185151242703554760590262029100101153646988597309960020356494379340201592426774597868716015
abbrev Il : Nat := 1237940039285380274899122808
abbrev TW : Nat := 87112285931760246646623899502532662132671
abbrev NB : Nat := 41538374868278621028243970633760646
abbrev Xx : Nat := 356811923176489970264571492362373784095686572
abbrev NC : Nat := 79228162514264337593543692175
abbrev Im : Nat := 4722366482869645213679
abbrev ad9 : Nat := 2923003274661805836407369665432566039311865085887
abbrev ND : Nat := 1237940039285380274899123320
abbrev NE : Nat := 309485009821345068724780233
abbrev ahN : Nat := 65185151242703554760590262029100101153646988597309960020356494379340201592426774597868715788
abbrev CW : Nat := 77371252455336267181193549
abbrev CX : Nat := 77371252455336267181194829
abbrev K8 : Nat := 41538374868278621028243970633760710
abbrev wu : Nat := 4611686018427387120
abbrev CY : Nat := 4722366482869645212749
abbrev Qt : Nat := 664613997892457936451903530140172271
abbrev Qu : Nat := 41538374868278621028243970633760742
abbrev K9 : Nat := 1237940039285380274899123832
abbrev Xv : Nat := 356811923176489970264571492362373784095686540
abbrev Xw : Nat := 356811923176489970264571492362373784095686412
abbrev La : Nat := 77371252455336267181195085
abbrev Lb : Nat := 77371252455336267181195247
abbrev Qv : Nat := 40564819207303340847894502572015
abbrev Qw : Nat := 79228162514264337593543921647
abbrev CZ : Nat := 4503599627243407
abbrev C0 : Nat := 1125899906842566
abbrev Qx : Nat := 309485009821345068724780751
abbrev An : Nat := 4398046511091
abbrev C3 : Nat := 4397241204723
abbrev Lc : Nat := 72057594037927887
abbrev Qy : Nat := 36893488147419103219
abbrev Ld : Nat := 1125899906842598
abbrev Qz : Nat := 576460752303423436
abbrev C4 : Nat := 1073692589
abbrev C5 : Nat := 1073741708
abbrev Xy : Nat := 18889465931478580850727
abbrev Le : Nat := 4398046511090
abbrev QA : Nat := 4503599627341807
abbrev QB : Nat := 2251799813685196
abbrev C6 : Nat := 268435404
abbrev Lg : Nat := 137438953423
abbrev QC : Nat := 35184372088782
noncomputable abbrev PP : Program := Tryz.prog
def GG : List Nat := [0]
noncomputable abbrev FF : bE := aF PP GG
noncomputable abbrev CQ (c : Code) (kn : KK) (kx : KX) (kr : KK) : KK := CK PP GG FF c kn kx kr
noncomputable abbrev KM (c : Code) (kx : KX) (kr : KK) : KK := CL PP GG FF c kx kr
def jI : Nat := 3
def jH : Nat := 4
def jG : Nat := 5
def m7 : Nat := 10
def jL : Nat := 11
def gz : Nat := 12
def nX : Nat := 13
def vr : Nat := 14
def nW : Nat := 15
def kB : Nat := 16
def g6 : Nat := 17
def bF : Nat := 18
def gA : Nat := 19
def eC : Nat := 20
def dK : Nat := 21
def ff : Nat := 22
def dp : Nat := 23
def kJ : Nat := 24
def su : Nat := 25
def nY : Nat := 26
def aaT : Nat := 27
def fT : Nat := 40
def sx : Nat := 44
def ne : Nat := 45
def m8 : Nat := 46
def sw : Nat := 47
def lI : Nat := 48
def gb : Nat := 49
def jf : Nat := 50
def g7 : Nat := 51
def kE : Nat := 52
def kD : Nat := 53
def By : Nat := 54
def xG : Nat := 55
def dx : Nat := 56
def jP : Nat := 57
def ge : Nat := 58
def m9 : Nat := 59
def ij : Nat := 60
def tL : Nat := 61
def iS : Nat := 62
def tK : Nat := 63
def eI : Nat := 64
def kC : Nat := 65
def fA : Nat := 66
def bB : Nat := 73
def ep : Nat := 75
def sy : Nat := 79
def dr : Nat := 80
def oM : Nat := 81
def zA : Nat := 82
def ss : Nat := 83
def sD : Nat := 84
def vt : Nat := 85
def vn : Nat := 86
def nc : Nat := 87
def ng : Nat := 88
def oQ : Nat := 89
def oP : Nat := 90
def ei : Nat := 91
def il : Nat := 92
def gL : Nat := 93
def i4 : Nat := 94
def zB : Nat := 95
def ni : Nat := 96
def bq : Nat := 97
def sr : Nat := 98
def oL : Nat := 99
def ik : Nat := 100
def oO : Nat := 101
def jK : Nat := 102
def dy : Nat := 104
def fO : Nat := 105
def iI : Nat := 106
def jN : Nat := 107
def m6 : Nat := 108
def fg : Nat := 109
def bC : Nat := 110
def EG : Nat := 111
def io : Nat := 112
def en : Nat := 113
def lK : Nat := 114
def eR : Nat := 115
def bX : Nat := 116
def i0 : Nat := 117
def gZ : Nat := 118
def iZ : Nat := 119
def kI : Nat := 120
def nh : Nat := 121
def fR : Nat := 122
def i1 : Nat := 123
def jM : Nat := 124
def aiE : Nat := 125
def aaW : Nat := 126
def cz : Nat := 130
def i3 : Nat := 132
def iJ : Nat := 142
def jO : Nat := 143
def kK : Nat := 144
def jJ : Nat := 145
def aaX : Nat := 148
def fQ : Nat := 149
def sA : Nat := 150
def vx : Nat := 151
def xF : Nat := 152
def xE : Nat := 153
def aaU : Nat := 154
def gq : Nat := 155
def vy : Nat := 156
def cq : Nat := 157
def oR : Nat := 158
def dH : Nat := 159
def eM : Nat := 160
def eS : Nat := 161
def fS : Nat := 162
def lT : Nat := 163
def qQ : Nat := 164
def oN : Nat := 165
def jq : Nat := 167
def kz : Nat := 168
def aaV : Nat := 169
def kH : Nat := 170
def g8 : Nat := 171
def lL : Nat := 172
def ej : Nat := 173
def eO : Nat := 174
def kT : Nat := 175
def eN : Nat := 176
def iY : Nat := 177
def lJ : Nat := 178
def kF : Nat := 179
def kG : Nat := 180
def iR : Nat := 181
def EF : Nat := 182
def iu : Nat := 183
def qi : Nat := 185
def n6 : Nat := 186
def vz : Nat := 190
def sC : Nat := 191
def sB : Nat := 200
def gJ : Nat := 201
def dq : Nat := 202
def da : Nat := 203
def cP : Nat := 204
def mw : Nat := 207
def mt : Nat := 208
def xC : Nat := 209
def bJ : Nat := 210
def ii : Nat := 211
def dn : Nat := 212
def nb : Nat := 213
def fP : Nat := 214
def fi : Nat := 215
def n0 : Nat := 216
def dS : Nat := 217
def na : Nat := 218
def sE : Nat := 220
def vq : Nat := 221
def db : Nat := 236
def eA : Nat := 237
def bj : Nat := 238
def ci : Nat := 239
def bT : Nat := 240
def gc : Nat := 242
def dL : Nat := 243
def cp : Nat := 244
def fc : Nat := 245
def jQ : Nat := 246
def qj : Nat := 248
def kW : Nat := 277
def kU : Nat := 278
def bv : Nat := 279
def aX : Nat := 280
def dz : Nat := 281
def mu : Nat := 282
def fe : Nat := 283
def kV : Nat := 299
def cj : Nat := 300
def dY : Nat := 301
def fh : Nat := 302
def oS : Nat := 303
def fB : Nat := 304
def iq : Nat := 305
def ip : Nat := 306
def pD : Nat := 307
def ky : Nat := 308
def kw : Nat := 309
def dI : Nat := 315
def dD : Nat := 316
def cu : Nat := 317
def fN : Nat := 318
def gK : Nat := 319
def pC : Nat := 320
def iH : Nat := 321
def mA : Nat := 322
def cD : Nat := 323
def fM : Nat := 324
def nZ : Nat := 325
def xD : Nat := 326
def mz : Nat := 327
def mq : Nat := 328
def mr : Nat := 329
def gy : Nat := 330
def lM : Nat := 331
def ir : Nat := 332
def gI : Nat := 333
def kA : Nat := 334
def dR : Nat := 335
def jF : Nat := 336
def mv : Nat := 337
def jd : Nat := 338
def my : Nat := 339
def je : Nat := 340
def pB : Nat := 341
section
variable (x0 x1 x2 x3 x4 x5 x6 x7 x8 x9 x10 x12 x13 x14 x15 x16 x17 x32 x35 x48 x51 : Value) (H : AH)
noncomputable def F8 (p : List Nat) : Code := Code.sub (bH Tryz.f3) p
noncomputable def DU : KK := dO PP (Tryz.f3).results.toList
noncomputable def ahS : KK := CQ (F8 [1, 1, 1, 1, 1]) DU bD DU
noncomputable def qJ : OV := ahS (ls [u, x1, u, u, x4, x5, u, x7, x8] 63) H
noncomputable def YZ : KK := CQ (F8 [1, 1, 1, 1, 1, 1]) DU bD DU
noncomputable def ahQ : KK := gC Im YZ
noncomputable def qK : OV := YZ (ls [u, u, u, u, x4] 67) H
noncomputable def ahT : KK := CQ (F8 [1, 1, 1, 1, 1, 0, 1]) ahQ bD DU
noncomputable def qL : OV := ahT (ls [u, x1, u, u, x4, x5, u, x7, x8, x9] 62) H
noncomputable def Y2 : KX := BX 0 ahQ bD
noncomputable def R6 : KX := A6 Im Y2
noncomputable def Y0 : KK := KM (F8 [1, 1, 1, 1, 1, 0, 1, 4, 5]) R6 DU
noncomputable def ahR : KK := gC CY Y0
noncomputable def iX : OV := Y0 (ls [u, x1, u, u, x4, x5, u, x7, x8, x9] 62) H
noncomputable def ahU : KK := CQ (F8 [1, 1, 1, 1, 1, 0, 1, 4, 5, 1]) ahR R6 DU
noncomputable def qM : OV := ahU (ls [u, x1, u, u, x4, x5, u, x7, x8, x9] 62) H
noncomputable def Y1 : KK := CQ (F8 [1, 1, 1, 1, 1, 0, 1, 4, 5, 1, 1]) ahR R6 DU
noncomputable def ak8 : KK := gC CY Y1
noncomputable def qN : OV := Y1 (ls [u, x1, u, u, x4, x5, u, x7, x8, x9] 62) H
noncomputable def ak9 : KX := BX 1 ak8 R6
noncomputable def jC : OV := Y2 0 (ls [u, u, u, u, x4] 67) H
theorem rZ : aw Im DU := rf
theorem afN : aw 4722366482869645213261 ahS := rc rZ aD rZ
theorem Jr : aw Im YZ := rc rZ aD rZ
theorem afO : aw CY ahT := rc (cd Jr) aD rZ
theorem w6 : ∀ i, aw Im (Y2 i) := rb (cd Jr) aD
theorem Ci : aw CY Y0 := rl (cx w6) rZ
theorem afP : aw CY ahU := rc (cd Ci) (cx w6) rZ
theorem R5 : aw CY Y1 := rc (cd Ci) (cx w6) rZ
theorem afQ : ∀ i, aw CY (ak9 i) := rb (cd R5) (cx w6)
theorem vd : qK x4 H =
 some ((vb true), H) :=
 (by kernel_rfl)
theorem vh : qN x1 x4 x5 x7 x8 x9 H =
 (ap .other .add x9 (vi 1)).bind fun a =>
 iX x1 x4 x5 x7 x8 a H :=
 (by kernel_rfl)
theorem vg : qM x1 x4 x5 x7 x8 x9 H =
 ldN 4 [.i 4 x9] x1 H fun m =>
 (FF vr [m, x9] H).bind fun l =>
 aQ [(vi 0), (vi 0), (vi 0), (vi 0)] l.2 fun j o =>
 (cf 4 j l.1 o).bind fun c =>
 (ay 2 x5 c).bind fun p =>
 (ap .other .rem x9 (vi 3)).bind fun q =>
 (ay 4 j c).bind fun s =>
 ld [.n, .f 0, .f 1] x7 c fun t =>
 (ap .other .add t (vi 11)).bind fun w =>
 (FF nW [p, q, x9, s, x8, w] c).bind fun d =>
 (af d.1 0).bind fun y =>
 (af d.1 1).bind fun z =>
 (af d.1 2).bind fun A =>
 aQ [(vi 0), (.slice none 0 0), (vi 0), (vw 0)] d.2 fun e B =>
 (cf 4 e y B).bind fun b =>
 (nk .not A).bind fun a =>
 (gB a false (ay 4 e b)).bind fun C =>
 (gV a false x7).bind fun D =>
 (gB a false (ay 4 j b)).bind fun E =>
 (gE a false b (FF g6 [D, E] b)).bind fun g =>
 bO (ay 4 e g.2) (ay 4 e b) <|
 (gE a false g.2 (FF kB [C, g.1] g.2)).bind fun k =>
 (gB a false (nk .not k.1)).bind fun G =>
 (aV a (vb true) G).bind fun I =>
 av I
 (some ((vb false), k.2))
 (qN x1 x4 x5 x7 z x9 k.2) :=
 (pt rfl 0 R5 (bt rfl (F8 [1, 1, 1, 1, 1, 0, 1, 4, 5, 1, 0, 4]) 1 afQ (by kernel_rfl)))
theorem sk : jC x4 H = qK x4 H :=
 (by kernel_rfl)
theorem mY : iX x1 x4 x5 x7 x8 x9 H =
 iQ x1 fun b =>
 (ap .other .lss x9 b).bind fun a =>
 (gV a true x9).bind fun c =>
 (gB a true (ap .other .lss c (vi 30))).bind fun d =>
 (aV a d (vb false)).bind fun e =>
 av e
 (qM x1 x4 x5 x7 x8 x9 H)
 (jC x4 H) :=
 KN rfl Ci (pt rfl 0 afP (by kernel_rfl))
theorem vf : qL x1 x4 x5 x7 x8 x9 H =
 iX x1 x4 x5 x7 x8 x9 H :=
 (bt rfl (F8 [1, 1, 1, 1, 1, 0, 1, 4]) 0 w6 (li rfl (F8 [1, 1, 1, 1, 1, 0, 1, 4, 5]) Ci (by kernel_rfl)))
theorem vc : qJ x1 x4 x5 x7 x8 H =
 qL x1 x4 x5 x7 x8 (vi 0) H :=
 (pt rfl 0 Jr (pt rfl 0 afO (by kernel_rfl)))
noncomputable def JJ : OV := bh PP GG FF (F8 []) (ls [x0, x1] 70) H DU bD DU
theorem Bj {r : Value × AH} (h : (
 aQ (Value.cells x0).toList H fun d e =>
 (ay 5 d e).bind fun k =>
 (FF m7 [k, (vi 0)] e).bind fun a =>
 (af a.1 0).bind fun l =>
 (af a.1 1).bind fun m =>
 aQ [(.pointer none), (.pointer none)] a.2 fun f n =>
 (cf 2 f l n).bind fun g =>
 (ay 5 d g).bind fun o =>
 (FF gz [o] g).bind fun i =>
 (FF jL [i.1] i.2).bind fun j =>
 (FF nX [] j.2).bind fun b =>
 (nk .not b.1).bind fun c =>
 (gV c false m).bind fun p =>
 (gB c false (nk .not p)).bind fun q =>
 (aV c (vb true) q).bind fun s =>
 av s
 (some ((vb false), b.2))
 (qJ x1 (vb false) f j.1 (vi 0) b.2)) = some r) : FF jI [x0, x1] H = some r :=
 fo (t := JJ x0 x1 H) Tryz.func3 (by kernel_rfl) (Eq.trans (pt rfl 4 afN (by kernel_rfl)) h)
theorem Bi {r : Value × AH} (h : (
 aQ (Value.cells x0).toList H fun P U =>
 aQ (Value.cells x1).toList U fun a Q =>
 (ay 5 P Q).bind fun V =>
 (FF m7 [V, (vi 0)] Q).bind fun B =>
 (af B.1 0).bind fun W =>
 (af B.1 1).bind fun X =>
 aQ [(.pointer none), (.pointer none)] B.2 fun i Y =>
 (cf 2 i W Y).bind fun Z =>
 (FF nX [] Z).bind fun j =>
 (nk .not j.1).bind fun C =>
 (gV C false X).bind fun a0 =>
 (gB C false (nk .not a0)).bind fun a1 =>
 (aV C (vb true) a1).bind fun a2 =>
 av a2
 (some ((vb false), j.2))
 (ld [.f 1] a j.2 fun a3 =>
 (FF bF [a3, (vi 1048577)] j.2).bind fun k =>
 ad [.f 2] a fun D =>
 (ar D k.2).bind fun a4 =>
 bO (ar D j.2) (ar D k.2) <|
 (FF bF [a4, (vi 65536)] k.2).bind fun l =>
 (ap .other .add (vi 1) l.1).bind fun a5 =>
 ad [.f 3] a fun m =>
 (ar m l.2).bind fun a6 =>
 bO (ar m j.2) (ar m l.2) <|
 bO (ar m k.2) (ar m l.2) <|
 (FF bF [a6, (vi 8)] l.2).bind fun R =>
 (ap .other .add (vi 1) R.1).bind fun a7 =>
 ga [(0, 1), (1, 1), (2, 1), (3, 1)] [(vi 0), (vi 0), (vi 0), (vi 0)] [(0, (vi 1)), (1, k.1), (2, a5), (3, a7)] fun a8 =>
 (cf 4 a a8 R.2).bind fun E =>
 (ay 2 i E).bind fun a9 =>
 (ay 4 a E).bind fun b0 =>
 (FF nW [a9, (vi 0), (vi 0), b0, (vi 0), (vi 30)] E).bind fun t =>
 (af t.1 0).bind fun b1 =>
 (af t.1 1).bind fun e5 =>
 (af t.1 2).bind fun G =>
 aQ [(vi 0), (.slice none 0 0), (vi 0), (vw 0)] t.2 fun S b2 =>
 (cf 4 S b1 b2).bind fun I =>
 (ay 5 P I).bind fun b3 =>
 (FF gz [b3] I).bind fun w =>
 (lA none 4 w.1).bind fun b4 =>
 ad [.f 2] a fun J =>
 (ar J w.2).bind fun b5 =>
 bO (ar J I) (ar J w.2) <|
 (FF gA [b4, b5] w.2).bind fun c =>
 (af c.1 0).bind fun b6 =>
 (af c.1 1).bind fun e6 =>
 ad [.f 0] i fun K =>
 (ar K c.2).bind fun b7 =>
 ad [.n, .f 2] b7 fun L =>
 (ar L c.2).bind fun b8 =>
 ld [.f 0] i c.2 fun b9 =>
 ld [.n, .f 2] b9 c.2 fun c0 =>
 ld [.f 1] a c.2 fun c1 =>
 (FF dK [c0, c1] c.2).bind fun y =>
 bO (ar K y.2) (ar K c.2) <|
 bO (ar L y.2) (ar L c.2) <|
 (FF eC [b8, (vi 1), y.1, (vi 0)] y.2).bind fun d =>
 (af d.1 0).bind fun c2 =>
 (af d.1 1).bind fun M =>
 (af d.1 2).bind fun c3 =>
 fF G true  [.f 0] S d.2 fun c4 =>
 (gB G true (ap .other .eql c4 (vi 0))).bind fun c5 =>
 (aV G c5 (vb false)).bind fun T =>
 (gV T true c3).bind fun c6 =>
 (aV T c6 (vb false)).bind fun z =>
 (gV z true c2).bind fun c7 =>
 fF z true  [.f 1] a d.2 fun c8 =>
 (gB z true (ap .other .eql c7 c8)).bind fun c9 =>
 (aV z c9 (vb false)).bind fun b =>
 fF b true  [.f 0] i d.2 fun d0 =>
 (gV b true M).bind fun d1 =>
 (gE b true d.2 (FF ff [d0, (vi 1), d1] d.2)).bind fun e =>
 xe b true  [.f 1] a fun N =>
 (gB b true (ar N e.2)).bind fun d2 =>
 bO (ar N d.2) (ar N e.2) <|
 xe b true  [.f 3] a fun O =>
 (gB b true (ar O e.2)).bind fun d3 =>
 bO (ar O d.2) (ar O e.2) <|
 (gV b true b6).bind fun d4 =>
 (EI (yv b) true (ga [(0, 1), (1, 1), (2, 1)] [(vi 0), (vi 0), (vw 0)] [(0, d2), (1, d3), (2, d4)] some) (some undef)).bind fun d5 =>
 (gB b true (ap (.flat 3) .eql e.1 d5)).bind fun d6 =>
 (aV b d6 (vb false)).bind fun o =>
 fF o true  [.f 0] i e.2 fun d7 =>
 (gV o true M).bind fun d8 =>
 (gE o true e.2 (FF dp [d7, d8] e.2)).bind fun p =>
 (gB o true (ap .ptr .neq p.1 (.pointer none))).bind fun d9 =>
 (aV o d9 (vb false)).bind fun g =>
 fF g true  [.f 0] i p.2 fun e0 =>
 (gV g true M).bind fun e1 =>
 (gE g true p.2 (FF dp [e0, e1] p.2)).bind fun A =>
 (gE g true A.2 (FF kJ [A.1] A.2)).bind fun q =>
 xe g true  [.f 3] a fun s =>
 (gB g true (ar s q.2)).bind fun e2 =>
 bO (ar s p.2) (ar s q.2) <|
 bO (ar s A.2) (ar s q.2) <|
 (gB g true (ap .other .eql q.1 e2)).bind fun e3 =>
 (aV g e3 (vb false)).bind fun e4 =>
 some (e4, q.2))) = some r) : FF jH [x0, x1] H = some r :=
 fo Tryz.func4 (by kernel_rfl) h
noncomputable def p9 (p : List Nat) : Code := Code.sub (bH Tryz.f5) p
noncomputable def qa : KK := dO PP (Tryz.f5).results.toList
noncomputable def ahY : KK := CQ (p9 [1, 1, 1, 1]) qa bD qa
noncomputable def qC : OV := ahY (ls [u, x1, u, u, x4, x5, u, x7] 78) H
noncomputable def Zj : KK := CQ (p9 [1, 1, 1, 1, 1]) qa bD qa
noncomputable def ahV : KK := gC La Zj
noncomputable def qD : OV := Zj (ls [u, x1, u, u, x4, x5, u, x7] 78) H
noncomputable def ahZ : KK := CQ (p9 [1, 1, 1, 1, 1, 1]) qa bD qa
noncomputable def qE : OV := ahZ (ls [u, x1, u, u, x4, x5, u, x7, u, x9] 76) H
noncomputable def Zk : KK := CQ (p9 [1, 1, 1, 1, 1, 1, 1]) qa bD qa
noncomputable def ahW : KK := gC Lb Zk
noncomputable def qF : OV := Zk (ls [u, u, u, u, x4] 81) H
noncomputable def ah0 : KK := CQ (p9 [1, 1, 1, 1, 1, 1, 0, 1]) ahW bD qa
noncomputable def qG : OV := ah0 (ls [u, x1, u, u, x4, x5, u, x7, u, x9, x10] 75) H
noncomputable def Zt : KX := BX 2 ahW bD
noncomputable def Sd : KX := A6 Lb Zt
noncomputable def Zp : KK := KM (p9 [1, 1, 1, 1, 1, 1, 0, 1, 4, 5]) Sd qa
noncomputable def ahX : KK := gC CW Zp
noncomputable def iW : OV := Zp (ls [u, x1, u, u, x4, x5, u, x7, u, x9, x10] 75) H
noncomputable def ah1 : KK := CQ (p9 [1, 1, 1, 1, 1, 1, 0, 1, 4, 5, 1]) ahX Sd qa
noncomputable def qH : OV := ah1 (ls [u, x1, u, u, x4, x5, u, x7, u, x9, x10] 75) H
noncomputable def Zq : KK := CQ (p9 [1, 1, 1, 1, 1, 1, 0, 1, 4, 5, 1, 1]) ahX Sd qa
noncomputable def alA : KK := gC CW Zq
noncomputable def qI : OV := Zq (ls [u, x1, u, u, x4, x5, u, x7, u, x9, x10] 75) H
noncomputable def ajJ : KX := BX 3 alA Sd
noncomputable def jB : OV := Zt 2 (ls [u, u, u, u, x4] 81) H
noncomputable def Zl : KK := CQ (p9 [1, 1, 1, 1, 0, 1]) ahV bD qa
noncomputable def pi : OV := Zl (ls [u, x1, u, u, x4, x5, u, x7, x8] 77) H
noncomputable def OL : KX := BX 0 ahV bD
noncomputable def Jx : KX := A6 La OL
noncomputable def OJ : KK := KM (p9 [1, 1, 1, 1, 0, 1, 4, 5]) Jx qa
noncomputable def Zi : KK := gC CX OJ
noncomputable def ic : OV := OJ (ls [u, x1, u, u, x4, x5, u, x7, x8] 77) H
noncomputable def Zn : KK := CQ (p9 [1, 1, 1, 1, 0, 1, 4, 5, 1]) Zi Jx qa
noncomputable def pj : OV := Zn (ls [u, x1, u, u, x4, x5, u, x7, x8] 77) H
noncomputable def OK : KK := CQ (p9 [1, 1, 1, 1, 0, 1, 4, 5, 1, 1]) Zi Jx qa
noncomputable def ajI : KK := gC CX OK
noncomputable def pn : OV := OK (ls [u, x1, u, u, x4, x5, u, x7, x8] 77) H
noncomputable def ajK : KX := BX 1 ajI Jx
noncomputable def mW : OV := OL 0 (ls [u, x1, u, u, x4, x5, u, x7] 78) H
theorem iF : aw Lb qa := rf
theorem afW : aw La ahY := rc iF aD iF
theorem Jv : aw La Zj := rc iF aD iF
theorem afX : aw 77371252455336267181194573 ahZ := rc iF aD iF
theorem Jw : aw Lb Zk := rc iF aD iF
theorem afY : aw CW ah0 := rc (cd Jw) aD iF
theorem w8 : ∀ i, aw Lb (Zt i) := rb (cd Jw) aD
theorem Co : aw CW Zp := rl (cx w8) iF
theorem afZ : aw CW ah1 := rc (cd Co) (cx w8) iF
theorem Sc : aw CW Zq := rc (cd Co) (cx w8) iF
theorem Zr : ∀ i, aw CW (ajJ i) := rb (cd Sc) (cx w8)
theorem Zm : aw CX Zl := rc (cd Jv) aD iF
theorem r3 : ∀ i, aw La (OL i) := rb (cd Jv) aD
theorem w7 : aw CX OJ := rl (cx r3) iF
theorem Zo : aw CX Zn := rc (cd w7) (cx r3) iF
theorem LW : aw CX OK := rc (cd w7) (cx r3) iF
theorem Zs : ∀ i, aw CX (ajK i) := rb (cd LW) (cx r3)
theorem u5 : qF x4 H =
 some ((vb true), H) :=
 (by kernel_rfl)
theorem u9 : qI x1 x4 x5 x7 x9 x10 H =
 (ap .other .add x10 (vi 1)).bind fun a =>
 iW x1 x4 x5 x7 x9 a H :=
 (by kernel_rfl)
theorem u7 : qH x1 x4 x5 x7 x9 x10 H =
 ldN 4 [.i 4 x10] x1 H fun m =>
 (FF nY [m] H).bind fun l =>
 aQ [(vi 0), (vi 0), (vi 0), (vi 0)] l.2 fun c o =>
 (cf 4 c l.1 o).bind fun p =>
 st 1 [.f 0] c (vi 3) p fun d =>
 (ay 2 x5 d).bind fun q =>
 (ap .other .rem x10 (vi 3)).bind fun s =>
 (ay 4 c d).bind fun t =>
 ld [.n, .f 0, .f 1] x7 d fun w =>
 (ap .other .add w (vi 11)).bind fun y =>
 (FF aaT [q, s, x10, t, x9, y] d).bind fun e =>
 (af e.1 0).bind fun z =>
 (af e.1 1).bind fun A =>
 (af e.1 2).bind fun B =>
 aQ [(vi 0), (.slice none 0 0), (vi 0), (vw 0)] e.2 fun g C =>
 (cf 4 g z C).bind fun b =>
 (nk .not B).bind fun a =>
 (gB a false (ay 4 g b)).bind fun D =>
 (gV a false x7).bind fun E =>
 (gB a false (ay 4 c b)).bind fun G =>
 (gE a false b (FF g6 [E, G] b)).bind fun j =>
 bO (ay 4 g j.2) (ay 4 g b) <|
 (gE a false j.2 (FF kB [D, j.1] j.2)).bind fun k =>
 (gB a false (nk .not k.1)).bind fun I =>
 (aV a (vb true) I).bind fun J =>
 av J
 (some ((vb false), k.2))
 (qI x1 x4 x5 x7 A x10 k.2) :=
 (pt rfl 0 Sc (bt rfl (p9 [1, 1, 1, 1, 1, 1, 0, 1, 4, 5, 1, 0, 4]) 3 Zr (by kernel_rfl)))
theorem se : jB x4 H = qF x4 H :=
 (by kernel_rfl)
theorem mX : iW x1 x4 x5 x7 x9 x10 H =
 iQ x1 fun b =>
 (ap .other .lss x10 b).bind fun a =>
 (gV a true x10).bind fun c =>
 (gB a true (ap .other .lss c (vi 30))).bind fun d =>
 (aV a d (vb false)).bind fun e =>
 av e
 (qH x1 x4 x5 x7 x9 x10 H)
 (jB x4 H) :=
 KN rfl Co (pt rfl 0 afZ (by kernel_rfl))
theorem u6 : qG x1 x4 x5 x7 x9 x10 H =
 iW x1 x4 x5 x7 x9 x10 H :=
 (bt rfl (p9 [1, 1, 1, 1, 1, 1, 0, 1, 4]) 2 w8 (li rfl (p9 [1, 1, 1, 1, 1, 1, 0, 1, 4, 5]) Co (by kernel_rfl)))
theorem u4 : qE x1 x4 x5 x7 x9 H =
 qG x1 x4 x5 x7 x9 (vi 0) H :=
 (pt rfl 0 Jw (pt rfl 0 afY (by kernel_rfl)))
theorem u3 : qD x1 x4 x5 x7 H =
 qE x1 x4 x5 x7 (vi 0) H :=
 (pt rfl 0 afX (by kernel_rfl))
theorem t3 : pn x1 x4 x5 x7 x8 H =
 (ap .other .add x8 (vi 1)).bind fun a =>
 ic x1 x4 x5 x7 a H :=
 (by kernel_rfl)
theorem tZ : pj x1 x4 x5 x7 x8 H =
 (ap .other .add (vi 1) x8).bind fun a =>
 (ap .other .rem x8 (vi 2)).bind fun b =>
 (ap .other .add (vi 2) b).bind fun c =>
 ga [(0, 1), (1, 1), (2, 1), (3, 1)] [(vi 0), (vi 0), (vi 0), (vi 0)] [(0, (vi 1)), (1, x8), (2, a), (3, c)] fun d =>
 (FF g6 [x7, d] H).bind fun e =>
 pn x1 x4 x5 x7 x8 e.2 :=
 (pt rfl 0 LW (bt rfl (p9 [1, 1, 1, 1, 0, 1, 4, 5, 1, 0, 4]) 1 Zs (by kernel_rfl)))
theorem rj : mW x1 x4 x5 x7 H = qD x1 x4 x5 x7 H :=
 (by kernel_rfl)
theorem lQ : ic x1 x4 x5 x7 x8 H =
 (ap .other .lss x8 (vi 4)).bind fun a =>
 av a
 (pj x1 x4 x5 x7 x8 H)
 (mW x1 x4 x5 x7 H) :=
 KN rfl w7 (pt rfl 0 Zo (by kernel_rfl))
theorem tY : pi x1 x4 x5 x7 x8 H =
 ic x1 x4 x5 x7 x8 H :=
 (bt rfl (p9 [1, 1, 1, 1, 0, 1, 4]) 0 r3 (li rfl (p9 [1, 1, 1, 1, 0, 1, 4, 5]) w7 (by kernel_rfl)))
theorem u0 : qC x1 x4 x5 x7 H =
 pi x1 x4 x5 x7 (vi 0) H :=
 (pt rfl 0 Jv (pt rfl 0 Zm (by kernel_rfl)))
noncomputable def JI : OV := bh PP GG FF (p9 []) (ls [x0, x1] 84) H qa bD qa
theorem Bf {r : Value × AH} (h : (
 aQ (Value.cells x0).toList H fun d e =>
 (ay 5 d e).bind fun k =>
 (FF m7 [k, (vi 4)] e).bind fun a =>
 (af a.1 0).bind fun l =>
 (af a.1 1).bind fun m =>
 aQ [(.pointer none), (.pointer none)] a.2 fun f n =>
 (cf 2 f l n).bind fun g =>
 (ay 5 d g).bind fun o =>
 (FF gz [o] g).bind fun i =>
 (FF jL [i.1] i.2).bind fun j =>
 (FF su [] j.2).bind fun b =>
 (nk .not b.1).bind fun c =>
 (gV c false m).bind fun p =>
 (gB c false (nk .not p)).bind fun q =>
 (aV c (vb true) q).bind fun s =>
 av s
 (some ((vb false), b.2))
 (qC x1 (vb false) f j.1 b.2)) = some r) : FF jG [x0, x1] H = some r :=
 fo (t := JI x0 x1 H) Tryz.func5 (by kernel_rfl) (Eq.trans (pt rfl 3 afW (by kernel_rfl)) h)
noncomputable def ul (p : List Nat) : Code := Code.sub (bH Tryz.f10) p
noncomputable def rG : KK := dO PP (Tryz.f10).results.toList
noncomputable def X5 : KK := CQ (ul [1, 1, 1, 1, 1]) rG bD rG
noncomputable def Ay : OV := X5 (ls [u, x1, x2, u, x4, x5, u, u, x8] 79) H
noncomputable def Oa : KK := CQ (ul [1, 1, 1, 1, 1, 1]) rG bD rG
noncomputable def X3 : KK := gC Qx Oa
noncomputable def Az : OV := Oa (ls [u, u, u, u, x4, x5, u, u, x8] 79) H
noncomputable def X7 : KK := CQ (ul [1, 1, 1, 1, 1, 0, 1]) X3 bD rG
noncomputable def AA : OV := X7 (ls [u, x1, x2, u, x4, x5, u, u, x8, x9] 78) H
noncomputable def Oe : KX := BX 0 X3 bD
noncomputable def II : KX := A6 Qx Oe
noncomputable def Oc : KK := KM (ul [1, 1, 1, 1, 1, 0, 1, 4, 5]) II rG
noncomputable def X4 : KK := gC NE Oc
noncomputable def nV : OV := Oc (ls [u, x1, x2, u, x4, x5, u, u, x8, x9] 78) H
noncomputable def X9 : KK := CQ (ul [1, 1, 1, 1, 1, 0, 1, 4, 5, 1]) X4 II rG
noncomputable def AB : OV := X9 (ls [u, x1, x2, u, x4, x5, u, u, x8, x9] 78) H
noncomputable def Od : KK := CQ (ul [1, 1, 1, 1, 1, 0, 1, 4, 5, 1, 1]) X4 II rG
noncomputable def ajB : KK := gC NE Od
noncomputable def sg : OV := Od (ls [u, x1, x2, u, x4, x5, u, u, x8, x9] 78) H
noncomputable def aeR : KX := BX 1 ajB II
noncomputable def us : OV := Oe 0 (ls [u, u, u, u, x4, x5, u, u, x8] 79) H
theorem nP : aw 309485009821345068724781007 rG := rf
theorem X6 : aw 309485009821345068724780745 X5 := rc nP aD nP
theorem Dv : aw Qx Oa := rc nP aD nP
theorem X8 : aw NE X7 := rc (cd Dv) aD nP
theorem rH : ∀ i, aw Qx (Oe i) := rb (cd Dv) aD
theorem wI : aw NE Oc := rl (cx rH) nP
theorem Ya : aw NE X9 := rc (cd wI) (cx rH) nP
theorem LE : aw NE Od := rc (cd wI) (cx rH) nP
theorem Ut : ∀ i, aw NE (aeR i) := rb (cd LE) (cx rH)
theorem Ee : Az x4 x5 x8 H =
 (ay 2 x8 H).bind fun b =>
 (cf 2 x4 b H).bind fun a =>
 (ay 2 x4 a).bind fun c => some (Value.tuple #[c, (vb true)], a) :=
 (by kernel_rfl)
theorem Eh : sg x1 x2 x4 x5 x8 x9 H =
 (ap .other .add x9 (vi 1)).bind fun a =>
 nV x1 x2 x4 x5 x8 a H :=
 (by kernel_rfl)
theorem Eg : AB x1 x2 x4 x5 x8 x9 H =
 ld [.f 0] x2 H fun d =>
 (ap .other .quo x9 d).bind fun e =>
 ld [.f 1] x2 H fun g =>
 (ap .other .lss e g).bind fun a =>
 (gB a true (ay 2 x8 H)).bind fun i =>
 (gV a true x9).bind fun j =>
 (gV a true x9).bind fun k =>
 (gB a true (ap .other .add (vi 1) k)).bind fun l =>
 (gV a true x9).bind fun m =>
 (gB a true (ap .other .rem m (vi 2))).bind fun n =>
 (gB a true (ap .other .add (vi 2) n)).bind fun o =>
 (gE a true H (FF m8 [i, j, l, o] H)).bind fun b =>
 (gB a true (nk .not b.1)).bind fun p =>
 (aV a p (vb false)).bind fun q =>
 av q
 (ga [(0, 1), (1, 1)] [(.pointer none), (.pointer none)] [] fun s =>
 (cf 2 x4 s b.2).bind fun c =>
 (ay 2 x4 c).bind fun t => some (Value.tuple #[t, (vb false)], c))
 (sg x1 x2 x4 x5 x8 x9 b.2) :=
 (pt rfl 0 LE (bt rfl (ul [1, 1, 1, 1, 1, 0, 1, 4, 5, 1, 0, 4]) 1 Ut (by kernel_rfl)))
theorem zu : us x4 x5 x8 H = Az x4 x5 x8 H :=
 (by kernel_rfl)
theorem sf : nV x1 x2 x4 x5 x8 x9 H =
 (ap .other .lss x9 x1).bind fun a =>
 av a
 (AB x1 x2 x4 x5 x8 x9 H)
 (us x4 x5 x8 H) :=
 KN rfl wI (pt rfl 0 Ya (by kernel_rfl))
theorem Ef : AA x1 x2 x4 x5 x8 x9 H =
 nV x1 x2 x4 x5 x8 x9 H :=
 (bt rfl (ul [1, 1, 1, 1, 1, 0, 1, 4]) 0 rH (li rfl (ul [1, 1, 1, 1, 1, 0, 1, 4, 5]) wI (by kernel_rfl)))
theorem Ed : Ay x1 x2 x4 x5 x8 H =
 AA x1 x2 x4 x5 x8 (vi 0) H :=
 (pt rfl 0 Dv (pt rfl 0 X8 (by kernel_rfl)))
noncomputable def Z6 : OV := bh PP GG FF (ul []) (ls [x0, x1] 86) H rG bD rG
theorem L9 {r : Value × AH} (h : (
 aQ (Value.cells x0).toList H fun c y =>
 aQ [(.pointer none), (.pointer none)] y fun k m =>
 (ay 5 c m).bind fun z =>
 (FF gz [z] m).bind fun o =>
 (cf 5 c o.1 o.2).bind fun p =>
 (ay 5 c p).bind fun A =>
 (FF sx [A] p).bind fun a =>
 (af a.1 0).bind fun b =>
 (af a.1 1).bind fun B =>
 (ap .other .neq B (vi 0)).bind fun l =>
 (gV l false b).bind fun C =>
 (gB l false (ap .ptr .eql C (.pointer none))).bind fun D =>
 (aV l (vb true) D).bind fun d =>
 (gV d false b).bind fun E =>
 fF d false  [.n, .f 0] E a.2 fun G =>
 (gB d false (ap .ptr .eql G (.pointer none))).bind fun I =>
 (aV d (vb true) I).bind fun e =>
 (gV e false b).bind fun J =>
 fF e false  [.n, .f 1] J a.2 fun K =>
 (gB e false (ap .ptr .eql K (.pointer none))).bind fun L =>
 (aV e (vb true) L).bind fun g =>
 (gV g false b).bind fun M =>
 fF g false  [.n, .f 2] M a.2 fun N =>
 (gB g false (ap .ptr .eql N (.pointer none))).bind fun O =>
 (aV g (vb true) O).bind fun i =>
 (gV i false b).bind fun P =>
 fF i false  [.n, .f 3] P a.2 fun Q =>
 (gB i false (ap .ptr .eql Q (.pointer none))).bind fun R =>
 (aV i (vb true) R).bind fun j =>
 (gV j false b).bind fun S =>
 fF j false  [.n, .f 4] S a.2 fun T =>
 (gB j false (ap .ptr .eql T (.pointer none))).bind fun U =>
 (aV j (vb true) U).bind fun V =>
 av V
 (ga [(0, 1), (1, 1)] [(.pointer none), (.pointer none)] [] fun W =>
 (cf 2 k W a.2).bind fun q =>
 (ay 2 k q).bind fun X => some (Value.tuple #[X, (vb false)], q))
 ((ay 5 c a.2).bind fun Y =>
 (FF ne [Y] a.2).bind fun s =>
 ga [(0, 1), (1, 1)] [(.pointer none), (.pointer none)] [(0, b), (1, s.1)] fun Z =>
 aQ [(.pointer none), (.pointer none)] s.2 fun w a0 =>
 (cf 2 w Z a0).bind fun a1 =>
 Ay x1 c k (vb false) w a1)) = some r) : FF m7 [x0, x1] H = some r :=
 fo (t := Z6 x0 x1 H) Tryz.func10 (by kernel_rfl) (Eq.trans (pt rfl 4 X6 (by kernel_rfl)) h)
theorem BM {r : Value × AH} (h : (
 aQ (Value.cells x0).toList H fun b a =>
 (ay 5 b a).bind fun c =>
 ga [(0, 1), (1, 1), (2, 1)] [(.slice none 0 0), (vw 0), (vw 0)] [] fun d =>
 aQ (Value.cells d).toList a fun e f =>
 ga [(0, 5), (5, 1), (6, 1)] [(vi 0), (vi 0), (vi 0), (vi 0), (vw 0), (.pointer none), (vi 0)] [(0, c), (1, e)] fun g =>
 aQ (Value.cells g).toList f fun i j =>
 some (i, j)) = some r) : FF jL [x0] H = some r :=
 fo Tryz.func11 (by kernel_rfl) h
noncomputable def Yb (p : List Nat) : Code := Code.sub (bH Tryz.f12) p
noncomputable def Dz : KK := dO PP (Tryz.f12).results.toList
noncomputable def Yc : KK := CQ (Yb [1, 1]) Dz bD Dz
noncomputable def sH : OV := Yc (ls [u, x1, x2, x3] 29) H
noncomputable def Ye : KK := CQ (Yb [1, 1, 1]) Dz bD Dz
noncomputable def jW : OV := Ye (ls [u, x1, x2, x3] 29) H
theorem Cd : aw 8589934587 Dz := rf
theorem Yd : aw 8589934577 Yc := rc Cd aD Cd
theorem Yf : aw 8589934577 Ye := rc Cd aD Cd
theorem xS : jW x1 x2 x3 H =
 ld [.f 0] x1 H fun k =>
 (FF bF [k, (vi 4)] H).bind fun b =>
 (ap .other .add (vi 1) b.1).bind fun l =>
 ad [.f 1] x1 fun g =>
 (ar g b.2).bind fun m =>
 bO (ar g H) (ar g b.2) <|
 (FF bF [m, (vi 4)] b.2).bind fun c =>
 (ap .other .add (vi 1) c.1).bind fun n =>
 ad [.f 2] x1 fun e =>
 (ar e c.2).bind fun o =>
 bO (ar e H) (ar e c.2) <|
 bO (ar e b.2) (ar e c.2) <|
 (FF bF [o, (vi 6)] c.2).bind fun d =>
 (ap .other .add (vi 1) d.1).bind fun p =>
 ad [.f 3] x1 fun a =>
 (ar a d.2).bind fun q =>
 bO (ar a H) (ar a d.2) <|
 bO (ar a b.2) (ar a d.2) <|
 bO (ar a c.2) (ar a d.2) <|
 (FF bF [q, (vi 12)] d.2).bind fun i =>
 ga [(0, 1), (1, 1), (2, 1), (3, 1), (4, 1)] [(vi 0), (vi 0), (vi 0), (vi 0), (vw 0)] [(0, l), (1, n), (2, p), (3, i.1), (4, x3)] fun s =>
 (cf 5 x2 s i.2).bind fun j =>
 (ay 5 x2 j).bind fun t => some (t, j) :=
 (by kernel_rfl)
theorem xR : sH x1 x2 x3 H =
 ld [.f 4] x1 H fun a =>
 (ap .other .rem a (vw 4)).bind fun b =>
 (ap .other .eql b (vw 3)).bind fun c =>
 av c
 (ld [.f 4] x1 H fun d =>
 (ap .other .rem d (vw 4611686018427387904)).bind fun e =>
 (ap .other .add (vw 1) e).bind fun g =>
 jW x1 x2 g H)
 (jW x1 x2 x3 H) :=
 (pt rfl 0 Yf (by kernel_rfl))
noncomputable def Mv : OV := bh PP GG FF (Yb []) (ls [x0] 32) H Dz bD Dz
theorem EN {r : Value × AH} (h : (
 aQ (Value.cells x0).toList H fun a c =>
 aQ [(vi 0), (vi 0), (vi 0), (vi 0), (vw 0)] c fun d b =>
 ld [.f 4] a b fun e =>
 (ap .other .rem e (vw 5000)).bind fun g =>
 (ap .other .add (vw 1) g).bind fun i =>
 sH a d i b) = some r) : FF gz [x0] H = some r :=
 fo (t := Mv x0 H) Tryz.func12 (by kernel_rfl) (Eq.trans (pt rfl 1 Yd (by kernel_rfl)) h)
noncomputable def wK (p : List Nat) : Code := Code.sub (bH Tryz.f14) p
noncomputable def um : KK := dO PP (Tryz.f14).results.toList
noncomputable def Yg : KK := CQ (wK [1, 1]) um bD um
noncomputable def AF : OV := Yg (ls [u, x1, x2, u, x4, x5] 31) H
noncomputable def Og : KK := CQ (wK [1, 1, 1]) um bD um
noncomputable def IM : KK := gC Lg Og
noncomputable def jp : OV := Og (ls [u, u, u, u, x4, x5] 31) H
noncomputable def Yi : KK := CQ (wK [1, 1, 0, 1]) IM bD um
noncomputable def AG : OV := Yi (ls [u, x1, x2, u, x4, x5, u, u, u, u, x10] 26) H
noncomputable def Ym : KX := BX 0 IM bD
noncomputable def Yn : KX := A6 Lg Ym
noncomputable def Yk : KK := CQ (wK [1, 1, 0, 1, 4, 1]) IM Yn um
noncomputable def lu : OV := Yk (ls [u, x1, x2, u, x4, x5, u, u, u, u, x10, u, u, u, x14] 22) H
noncomputable def Rh : KK := CQ (wK [1, 1, 0, 1, 4, 1, 3, 1]) IM Yn um
noncomputable def l7 : OV := Rh (ls [u, x1, u, u, x4, x5, u, u, u, u, u, u, u, u, u, u, u, u, u, u, u, u, u, u, u, u, u, u, u, u, u, u, x32] 4) H
theorem pY : aw 137438953455 um := rf
theorem Yh : aw 137438953417 Yg := rc pY aD pY
theorem rO : aw Lg Og := rc pY aD pY
theorem Yj : aw 137438952393 Yi := rc (cd rO) aD pY
theorem DA : ∀ i, aw Lg (Ym i) := rb (cd rO) aD
theorem Yl : aw 137438936009 Yk := rc (cd rO) (cx DA) pY
theorem UF : aw 133143986125 Rh := rc (cd rO) (cx DA) pY
theorem Ej : jp x4 x5 H =
 (ay 4 x5 H).bind fun b =>
 (cf 4 x4 b H).bind fun a =>
 (ay 4 x4 a).bind fun c => some (c, a) :=
 (by kernel_rfl)
theorem Bh : l7 x1 x4 x5 x32 H =
 av x32
 (st 1 [.f 0] x5 (vi 2) H fun a =>
 jp x4 x5 a)
 (st 1 [.f 0] x5 (vi 3) H fun b =>
 st 1 [.f 3] x5 x1 b fun c =>
 jp x4 x5 c) :=
 (by kernel_rfl)
theorem sj : lu x1 x2 x4 x5 x10 x14 H =
 av x14
 (st 1 [.f 0] x5 (vi 1) H fun d =>
 ld [.f 2] x2 d fun i =>
 (FF bF [i, (vi 4)] d).bind fun a =>
 (ap .other .gtr a.1 (vi 0)).bind fun j =>
 av j
 (ld [.f 2] x2 a.2 fun k =>
 (FF bF [k, (vi 5)] a.2).bind fun b =>
 (ap .other .add (vi 1) b.1).bind fun l =>
 ad [.f 3] x2 fun c =>
 (ar c b.2).bind fun m =>
 bO (ar c a.2) (ar c b.2) <|
 (FF bF [m, (vi 3)] b.2).bind fun e =>
 (ap .other .add (vi 1) e.1).bind fun n =>
 st 1 [.f 2] x5 l e.2 fun o =>
 st 1 [.f 3] x5 n o fun p =>
 jp x4 x5 p)
 (jp x4 x5 a.2))
 ((ap .other .eql x10 (vi 2)).bind fun g =>
 av g
 (l7 x1 x4 x5 g H)
 ((ap .other .eql x10 (vi 3)).bind fun q =>
 l7 x1 x4 x5 q H)) :=
 (ct rfl (wK [1, 1, 0, 1, 4, 1, 2]) (wK [1, 1, 0, 1, 4, 1, 3]) (.tmp 14) (by kernel_rfl) (pt rfl 0 UF (by kernel_rfl)))
theorem El : AG x1 x2 x4 x5 x10 H =
 (ap .other .eql x10 (vi 0)).bind fun a =>
 av a
 (lu x1 x2 x4 x5 x10 a H)
 ((ap .other .eql x10 (vi 1)).bind fun b =>
 lu x1 x2 x4 x5 x10 b H) :=
 (bt rfl (wK [1, 1, 0, 1, 4]) 0 DA (pt rfl 0 Yl (by kernel_rfl)))
theorem Ei : AF x1 x2 x4 x5 H =
 ld [.f 0] x2 H fun b =>
 (FF bF [b, (vi 5)] H).bind fun a =>
 AG x1 x2 x4 x5 a.1 a.2 :=
 (pt rfl 0 rO (pt rfl 0 Yj (by kernel_rfl)))
noncomputable def Z7 : OV := bh PP GG FF (wK []) (ls [x0, x1] 35) H um bD um
theorem Ma {r : Value × AH} (h : (
 aQ (Value.cells x0).toList H fun a e =>
 aQ [(vi 0), (vi 0), (vi 0), (vi 0)] e fun f b =>
 (ay 4 a b).bind fun g =>
 (FF nY [g] b).bind fun c =>
 aQ [(vi 0), (vi 0), (vi 0), (vi 0)] c.2 fun d i =>
 (cf 4 d c.1 i).bind fun j =>
 AF x1 a f d j) = some r) : FF vr [x0, x1] H = some r :=
 fo (t := Z7 x0 x1 H) Tryz.func14 (by kernel_rfl) (Eq.trans (pt rfl 1 Yh (by kernel_rfl)) h)
noncomputable def uo (p : List Nat) : Code := Code.sub (bH Tryz.f15) p
noncomputable def rP : KK := dO PP (Tryz.f15).results.toList
noncomputable def Yq : KK := CQ (uo [1, 1]) rP bD rP
noncomputable def xp : OV := Yq (ls [u, u, u, u, x4, x5, x6, u, u, u, u, u, x12, x13, x14, x15] 36) H
noncomputable def Ys : KK := CQ (uo [1, 1, 1]) rP bD rP
noncomputable def Yo : KK := gC QA Ys
noncomputable def Yt : KK := CQ (uo [1, 1, 0, 1]) Yo bD rP
noncomputable def xq : OV := Yt (ls [u, u, u, u, x4, x5, x6, u, u, u, u, u, x12, x13, x14, x15, x16] 35) H
noncomputable def Oj : KX := BX 0 Yo bD
noncomputable def IV : KX := A6 QA Oj
noncomputable def Oh : KK := KM (uo [1, 1, 0, 1, 4, 5]) IV rP
noncomputable def Yp : KK := gC CZ Oh
noncomputable def l8 : OV := Oh (ls [u, u, u, u, x4, x5, x6, u, u, u, u, u, x12, x13, x14, x15, x16] 35) H
noncomputable def Yv : KK := CQ (uo [1, 1, 0, 1, 4, 5, 1]) Yp IV rP
noncomputable def xr : OV := Yv (ls [u, u, u, u, x4, x5, x6, u, u, u, u, u, x12, x13, x14, x15, x16] 35) H
noncomputable def Oi : KK := CQ (uo [1, 1, 0, 1, 4, 5, 1, 1]) Yp IV rP
noncomputable def ajC : KK := gC CZ Oi
noncomputable def xt : OV := Oi (ls [u, u, u, u, x4, x5, x6, u, u, u, u, u, x12, x13, x14, x15, x16] 35) H
noncomputable def aeZ : KX := BX 1 ajC IV
noncomputable def Em : OV := Oj 0 (ls [u, u, u, u, x4, u, u, u, u, u, u, u, x12, x13, x14] 37) H
theorem nQ : aw 4503599627341823 rP := rf
theorem Yr : aw 4503599627308943 Yq := rc nQ aD nQ
theorem DB : aw QA Ys := rc nQ aD nQ
theorem Yu : aw CZ Yt := rc (cd DB) aD nQ
theorem rR : ∀ i, aw QA (Oj i) := rb (cd DB) aD
theorem wL : aw CZ Oh := rl (cx rR) nQ
theorem Yw : aw CZ Yv := rc (cd wL) (cx rR) nQ
theorem LF : aw CZ Oi := rc (cd wL) (cx rR) nQ
theorem UO : ∀ i, aw CZ (aeZ i) := rb (cd LF) (cx rR)
theorem Bo : xt x4 x5 x6 x12 x13 x14 x15 x16 H =
 (ap .other .add x16 (vi 1)).bind fun a =>
 l8 x4 x5 x6 x12 x13 x14 x15 a H :=
 (by kernel_rfl)
theorem Bn : xr x4 x5 x6 x12 x13 x14 x15 x16 H =
 (ay 3 x15 H).bind fun f =>
 (ay 2 x6 H).bind fun g =>
 (ap .other .add x4 x16).bind fun i =>
 (FF lI [f, g, i] H).bind fun a =>
 (af a.1 0).bind fun j =>
 (af a.1 1).bind fun k =>
 (af a.1 2).bind fun l =>
 aQ [(vi 0), (.slice none 0 0), (vi 0), (vw 0)] a.2 fun c m =>
 (cf 4 c j m).bind fun b =>
 (nk .not l).bind fun n =>
 av n
 (ga [(0, 1), (1, 1), (2, 1), (3, 1)] [(vi 0), (.slice none 0 0), (vi 0), (vw 0)] [] fun o =>
 (cf 4 x12 o b).bind fun d =>
 (ay 4 x12 d).bind fun p => some (Value.tuple #[p, x4, (vb false)], d))
 (av k
 ((ay 4 c b).bind fun q =>
 (ap .other .add x4 x16).bind fun s =>
 (ap .other .add s (vi 1)).bind fun t =>
 (cf 4 x12 q b).bind fun e =>
 (ay 4 x12 e).bind fun w => some (Value.tuple #[w, t, (vb true)], e))
 (xt x4 x5 x6 x12 x13 x14 x15 x16 b)) :=
 (pt rfl 0 LF (bt rfl (uo [1, 1, 0, 1, 4, 5, 1, 0, 4]) 1 UO (by kernel_rfl)))
theorem Bm : l8 x4 x5 x6 x12 x13 x14 x15 x16 H =
 (ap .other .lss x16 x5).bind fun a =>
 av a
 (xr x4 x5 x6 x12 x13 x14 x15 x16 H)
 (Em x4 x12 x13 x14 H) :=
 KN rfl wL (pt rfl 0 Yw (by kernel_rfl))
theorem Bl : xq x4 x5 x6 x12 x13 x14 x15 x16 H =
 l8 x4 x5 x6 x12 x13 x14 x15 x16 H :=
 (bt rfl (uo [1, 1, 0, 1, 4]) 0 rR (li rfl (uo [1, 1, 0, 1, 4, 5]) wL (by kernel_rfl)))
theorem Bk : xp x4 x5 x6 x12 x13 x14 x15 H =
 xq x4 x5 x6 x12 x13 x14 x15 (vi 0) H :=
 (pt rfl 0 DB (pt rfl 0 Yu (by kernel_rfl)))
noncomputable def VV : OV := bh PP GG FF (uo []) (ls [x0, x1, x2, x3, x4, x5] 46) H rP bD rP
theorem JK {r : Value × AH} (h : (
 aQ (Value.cells x0).toList H fun b e =>
 aQ (Value.cells x3).toList e fun f g =>
 aQ [(vi 0), (.slice none 0 0), (vi 0), (vw 0)] g fun i a =>
 (ay 2 b a).bind fun j =>
 (ay 4 f a).bind fun k =>
 (FF sw [j, x1, x2, k] a).bind fun c =>
 aQ [(.pointer none), (.pointer none), (.pointer none)] c.2 fun d l =>
 (cf 3 d c.1 l).bind fun m =>
 xp x4 x5 b i (vi 0) (vb false) d m) = some r) : FF nW [x0, x1, x2, x3, x4, x5] H = some r :=
 fo (t := VV x0 x1 x2 x3 x4 x5 H) Tryz.func15 (by kernel_rfl) (Eq.trans (pt rfl 1 Yr (by kernel_rfl)) h)
theorem L6 {r : Value × AH} (h : (
 aQ (Value.cells x0).toList H fun b j =>
 aQ (Value.cells x1).toList j fun c a =>
 ld [.f 0] b a fun k =>
 ld [.f 0] c a fun l =>
 (ap .other .eql k l).bind fun d =>
 fF d true  [.f 2] b a fun m =>
 fF d true  [.f 2] c a fun n =>
 (gB d true (ap .other .eql m n)).bind fun o =>
 (aV d o (vb false)).bind fun e =>
 fF e true  [.f 3] b a fun p =>
 fF e true  [.f 3] c a fun q =>
 (gB e true (ap .other .eql p q)).bind fun s =>
 (aV e s (vb false)).bind fun g =>
 fF g true  [.f 1] b a fun t =>
 fF g true  [.f 1] c a fun w =>
 (gE g true a (FF gb [t, w] a)).bind fun i =>
 (aV g i.1 (vb false)).bind fun y =>
 some (y, i.2)) = some r) : FF kB [x0, x1] H = some r :=
 fo Tryz.func16 (by kernel_rfl) h
noncomputable def LM (p : List Nat) : Code := Code.sub (bH Tryz.f17) p
noncomputable def Au : KK := dO PP (Tryz.f17).results.toList
noncomputable def YB : KK := CQ (LM [1]) Au bD Au
noncomputable def qS : OV := YB (ls [x0, u, u, x3, x4] 67) H
noncomputable def Oq : KK := CQ (LM [1, 1]) Au bD Au
noncomputable def YA : KK := gC Im Oq
noncomputable def BK : OV := Oq (ls [u, u, u, u, x4] 67) H
noncomputable def YD : KK := CQ (LM [1, 0, 1]) YA bD Au
noncomputable def qT : OV := YD (ls [x0, u, u, x3, x4, u, x6] 65) H
noncomputable def ajD : KX := BX 0 YA bD
theorem wQ : aw Im Au := rf
theorem YC : aw 4722366482869645213670 YB := rc wQ aD wQ
theorem DK : aw Im Oq := rc wQ aD wQ
theorem YE : aw 4722366482869645213606 YD := rc (cd DK) aD wQ
theorem YF : ∀ i, aw Im (ajD i) := rb (cd DK) aD
theorem vG : qT x0 x3 x4 x6 H =
 (ap .other .eql x6 (vi 1)).bind fun y =>
 av y
 ((ay 4 x3 H).bind fun z =>
 (FF g7 [x0, z] H).bind fun b =>
 (FF jf [b.1] b.2).bind fun c =>
 (cf 4 x4 c.1 c.2).bind fun d =>
 (ay 4 x4 d).bind fun A => some (A, d))
 ((ap .other .eql x6 (vi 2)).bind fun B =>
 av B
 (ld [.n, .f 5] x0 H fun C =>
 ld [.f 1] x3 H fun D =>
 (FF kE [C, D] H).bind fun e =>
 (FF jf [e.1] e.2).bind fun g =>
 (cf 4 x4 g.1 g.2).bind fun i =>
 (ay 4 x4 i).bind fun E => some (E, i))
 ((ap .other .eql x6 (vi 3)).bind fun G =>
 av G
 (ld [.f 2] x3 H fun I =>
 (ap .other .lss I (vi 1)).bind fun a =>
 fF a false  [.f 2] x3 H fun J =>
 (gB a false (ap .other .gtr J (vi 65536))).bind fun K =>
 (aV a (vb true) K).bind fun L =>
 av L
 ((FF jf [(vi 3)] H).bind fun j =>
 (cf 4 x4 j.1 j.2).bind fun k =>
 (ay 4 x4 k).bind fun M => some (M, k))
 (ld [.n, .f 5] x0 H fun N =>
 ld [.f 1] x3 H fun O =>
 ld [.f 2] x3 H fun P =>
 ld [.f 3] x3 H fun Q =>
 ga [(0, 1), (1, 1), (2, 1)] [(vi 0), (vi 0), (vi 0)] [(0, O), (1, P), (2, Q)] fun R =>
 (FF kD [N, R] H).bind fun l =>
 (FF jf [l.1] l.2).bind fun m =>
 (cf 4 x4 m.1 m.2).bind fun o =>
 (ay 4 x4 o).bind fun S => some (S, o)))
 ((ap .other .eql x6 (vi 4)).bind fun T =>
 av T
 ((FF By [x0] H).bind fun p =>
 (cf 4 x4 p.1 p.2).bind fun q =>
 (ay 4 x4 q).bind fun U => some (U, q))
 ((ap .other .eql x6 (vi 5)).bind fun V =>
 av V
 (ld [.f 2] x3 H fun W =>
 (FF xG [x0, W] H).bind fun s =>
 (cf 4 x4 s.1 s.2).bind fun t =>
 (ay 4 x4 t).bind fun X => some (X, t))
 ((ap .other .eql x6 (vi 6)).bind fun Y =>
 av Y
 (ld [.n, .f 6] x0 H fun Z =>
 ld [.n, .f 5] x0 H fun a0 =>
 ld [.n, .f 1] a0 H fun a1 =>
 ga [(0, 1), (1, 1), (2, 1), (3, 1)] [(vi 0), (.slice none 0 0), (vi 0), (vw 0)] [(2, Z), (3, a1)] fun a2 =>
 (cf 4 x4 a2 H).bind fun w =>
 (ay 4 x4 w).bind fun a3 => some (a3, w))
 (BK x4 H)))))) :=
 (bt rfl (LM [1, 0, 1, 4]) 0 YF (by kernel_rfl))
theorem vF : qS x0 x3 x4 H =
 ld [.f 0] x3 H fun a =>
 qT x0 x3 x4 a H :=
 (pt rfl 0 DK (pt rfl 0 YE (by kernel_rfl)))
noncomputable def J6 : OV := bh PP GG FF (LM []) (ls [x0, x1] 70) H Au bD Au
theorem BL {r : Value × AH} (h : (
 aQ (Value.cells x1).toList H fun a b =>
 aQ [(vi 0), (.slice none 0 0), (vi 0), (vw 0)] b fun c d =>
 qS x0 a c d) = some r) : FF g6 [x0, x1] H = some r :=
 fo (t := J6 x0 x1 H) Tryz.func17 (by kernel_rfl) (Eq.trans (pt rfl 0 YC (by kernel_rfl)) h)
theorem Mw {r : Value × AH} (h : (
 (cN (some .u64) x0).bind fun a =>
 (cN (some .u64) x1).bind fun b =>
 (ap .other .rem a b).bind fun c =>
 (cN (some .i64) c).bind fun d =>
 some (d, H)) = some r) : FF bF [x0, x1] H = some r :=
 fo Tryz.func18 (by kernel_rfl) h
theorem EO {r : Value × AH} (h : (
 (ap .other .lss x0 (vw 1)).bind fun a =>
 (gV a false x0).bind fun d =>
 (gB a false (ap .other .gtr d (vw 4611686018427387904))).bind fun e =>
 (aV a (vb true) e).bind fun b =>
 (gV b false x1).bind fun f =>
 (gB b false (ap .other .lss f (vi 1))).bind fun g =>
 (aV b (vb true) g).bind fun c =>
 (gV c false x1).bind fun i =>
 (gB c false (ap .other .gtr i (vi 65536))).bind fun j =>
 (aV c (vb true) j).bind fun k =>
 av k
 (some (Value.tuple #[(vw 0), (vb false)], H))
 ((cN (some .u64) x1).bind fun l =>
 (ap .other .quo x0 l).bind fun m =>
 (iv [m, (vw 1)]).bind fun n =>
 some (Value.tuple #[n, (vb true)], H))) = some r) : FF gA [x0, x1] H = some r :=
 fo Tryz.func19 (by kernel_rfl) h
theorem ud {r : Value × AH} (h : (
 ad [.n, .f 0] x0 fun b =>
 (ar b H).bind fun d =>
 (FF jP [x2, x3] H).bind fun c =>
 bO (ar b c.2) (ar b H) <|
 (FF dx [d, x1, c.1] c.2).bind fun a =>
 (ap .other .eql a.1 (vw 0)).bind fun e =>
 av e
 (some (Value.tuple #[(vi 0), (vi 0), (vb false)], a.2))
 ((ap .other .shr a.1 (vw 32)).bind fun g =>
 (cN (some .i64) g).bind fun i =>
 (ap .other .sub i (vi 1)).bind fun j =>
 (ap .other .and a.1 (vw 4294967295)).bind fun k =>
 (cN (some .i64) k).bind fun l =>
 some (Value.tuple #[j, l, (vb true)], a.2))) = some r) : FF eC [x0, x1, x2, x3] H = some r :=
 fo Tryz.func20 (by kernel_rfl) h
theorem s5 {r : Value × AH} (h : (
 ld [.n, .f 1] x0 H fun a =>
 (ap .other .rem x1 a).bind fun b =>
 ld [.n, .f 1] x0 H fun c =>
 (ap .other .add b c).bind fun d =>
 ld [.n, .f 1] x0 H fun e =>
 (ap .other .rem d e).bind fun g =>
 some (g, H)) = some r) : FF dK [x0, x1] H = some r :=
 fo Tryz.func21 (by kernel_rfl) h
theorem nl {r : Value × AH} (h : (
 aQ [(vi 0), (vi 0), (vw 0)] H fun a g =>
 (FF ge [x0, x2] g).bind fun b =>
 (nk .not b.1).bind fun j =>
 av j
 (ga [(0, 1), (1, 1), (2, 1)] [(vi 0), (vi 0), (vw 0)] [] fun k =>
 (cf 3 a k b.2).bind fun d =>
 (ay 3 a d).bind fun l => some (l, d))
 (ld [.n, .f 0] x0 b.2 fun m =>
 ga [(0, 1), (1, 1), (2, 1)] [(vi 0), (vi 0), (vi 0)] [(0, (vi 13)), (1, x2)] fun o =>
 (FF m9 [m, x1, o] b.2).bind fun c =>
 ld [.n, .f 10] x0 c.2 fun p =>
 ldN 3 [.i 4 x2, .f 0] p c.2 fun q =>
 (cf 3 a q c.2).bind fun e =>
 (ay 3 a e).bind fun s => some (s, e))) = some r) : FF ff [x0, x1, x2] H = some r :=
 fo Tryz.func22 (by kernel_rfl) h
theorem t7 {r : Value × AH} (h : (
 (FF ge [x0, x1] H).bind fun a =>
 (nk .not a.1).bind fun b =>
 av b
 (some ((.pointer none), a.2))
 (ld [.n, .f 10] x0 a.2 fun c =>
 ld [.i 4 x1, .f 3] c a.2 fun d =>
 some (d, a.2))) = some r) : FF dp [x0, x1] H = some r :=
 fo Tryz.func23 (by kernel_rfl) h
theorem yC {r : Value × AH} (h : (
 ld [.n, .f 2] x0 H fun a =>
 iQ a fun b =>
 some (b, H)) = some r) : FF kJ [x0] H = some r :=
 fo Tryz.func24 (by kernel_rfl) h
noncomputable def qB (p : List Nat) : Code := Code.sub (bH Tryz.f26) p
noncomputable def rW : KK := dO PP (Tryz.f26).results.toList
noncomputable def YJ : KK := CQ (qB [1, 1, 1]) rW bD rW
noncomputable def xM : OV := YJ (ls [u, x1, x2, x3] 61) H
noncomputable def Oz : KK := CQ (qB [1, 1, 1, 1]) rW bD rW
noncomputable def DS : KK := gC Qy Oz
noncomputable def dv : OV := Oz (ls [u, u, x2, x3] 61) H
noncomputable def YL : KK := CQ (qB [1, 1, 1, 0, 1]) DS bD rW
noncomputable def xN : OV := YL (ls [u, x1, x2, x3, u, u, u, u, u, u, u, u, u, u, u, x15] 49) H
noncomputable def YP : KX := BX 0 DS bD
noncomputable def OA : KX := A6 Qy YP
noncomputable def YN : KK := CQ (qB [1, 1, 1, 0, 1, 4, 1]) DS OA rW
noncomputable def xO : OV := YN (ls [u, x1, x2, x3, u, u, u, u, u, u, u, u, u, u, u, x15, u, u, u, u, u, u, u, u, u, u, u, u, u, u, u, u, u, u, u, x35] 29) H
noncomputable def RX : KK := CQ (qB [1, 1, 1, 0, 1, 4, 1, 3, 1]) DS OA rW
noncomputable def uu : OV := RX (ls [u, x1, x2, x3, u, u, u, u, u, u, u, u, u, u, u, x15, u, u, u, u, u, u, u, u, u, u, u, u, u, u, u, u, u, u, u, u, u, u, u, u, u, u, u, u, u, u, u, u, x48] 16) H
noncomputable def RY : KK := CQ (qB [1, 1, 1, 0, 1, 4, 1, 3, 1, 3, 1]) DS OA rW
noncomputable def kX : OV := RY (ls [u, x1, x2, x3, u, u, u, u, u, u, u, u, u, u, u, x15, u, u, u, u, u, u, u, u, u, u, u, u, u, u, u, u, u, u, u, u, u, u, u, u, u, u, u, u, u, u, u, u, u, u, u, x51] 13) H
theorem nR : aw 36893488147419103227 rW := rf
theorem YK : aw 36893488147419103217 YJ := rc nR aD nR
theorem pd : aw Qy Oz := rc nR aD nR
theorem YM : aw 36893488147419070449 YL := rc (cd pd) aD nR
theorem wY : ∀ i, aw Qy (YP i) := rb (cd pd) aD
theorem YO : aw 36893488113059332081 YN := rc (cd pd) (cx wY) nR
theorem Vm : aw 36893206672442359793 RX := rc (cd pd) (cx wY) nR
theorem Vn : aw 36891236347605385201 RY := rc (cd pd) (cx wY) nR
theorem BB : dv x2 x3 H =
 (ay 4 x3 H).bind fun b =>
 (cf 4 x2 b H).bind fun a =>
 (ay 4 x2 a).bind fun c => some (c, a) :=
 (by kernel_rfl)
theorem zE : kX x1 x2 x3 x15 x51 H =
 av x51
 (ga [(0, 1), (1, 1), (2, 1), (3, 1)] [(vi 0), (vi 0), (vi 0), (vi 0)] [(0, (vi 4))] fun j =>
 (cf 4 x3 j H).bind fun k =>
 dv x2 x3 k)
 ((ap .other .eql x15 (vi 8)).bind fun l =>
 av l
 (ld [.f 2] x1 H fun m =>
 (FF bF [m, (vi 6)] H).bind fun d =>
 ga [(0, 1), (1, 1), (2, 1), (3, 1)] [(vi 0), (vi 0), (vi 0), (vi 0)] [(0, (vi 5)), (2, d.1)] fun n =>
 (cf 4 x3 n d.2).bind fun o =>
 dv x2 x3 o)
 ((ap .other .eql x15 (vi 9)).bind fun p =>
 av p
 (ga [(0, 1), (1, 1), (2, 1), (3, 1)] [(vi 0), (vi 0), (vi 0), (vi 0)] [(0, (vi 6))] fun q =>
 (cf 4 x3 q H).bind fun s =>
 dv x2 x3 s)
 (ld [.f 2] x1 H fun t =>
 (FF bF [t, (vi 9)] H).bind fun a =>
 (ap .other .add (vi 1) a.1).bind fun w =>
 ad [.f 3] x1 fun c =>
 (ar c a.2).bind fun y =>
 bO (ar c H) (ar c a.2) <|
 (FF bF [y, (vi 1000)] a.2).bind fun e =>
 st 1 [.f 0] x3 (vi 3) e.2 fun z =>
 st 1 [.f 2] x3 w z fun A =>
 st 1 [.f 3] x3 e.1 A fun g =>
 ld [.f 2] x1 g fun B =>
 (FF bF [B, (vi 13)] g).bind fun b =>
 (ap .other .eql b.1 (vi 12)).bind fun C =>
 av C
 (ld [.f 2] x1 b.2 fun D =>
 (FF bF [D, (vi 65536)] b.2).bind fun i =>
 (ap .other .add (vi 1) i.1).bind fun E =>
 st 1 [.f 2] x3 E i.2 fun G =>
 dv x2 x3 G)
 (dv x2 x3 b.2)))) :=
 (by kernel_rfl)
theorem zD : uu x1 x2 x3 x15 x48 H =
 av x48
 (st 1 [.f 0] x3 (vi 2) H fun b =>
 dv x2 x3 b)
 ((ap .other .eql x15 (vi 6)).bind fun a =>
 av a
 (kX x1 x2 x3 x15 a H)
 ((ap .other .eql x15 (vi 7)).bind fun c =>
 kX x1 x2 x3 x15 c H)) :=
 (ct rfl (qB [1, 1, 1, 0, 1, 4, 1, 3, 1, 2]) (qB [1, 1, 1, 0, 1, 4, 1, 3, 1, 3]) (.tmp 48) (by kernel_rfl) (pt rfl 0 Vn (by kernel_rfl)))
theorem BD : xO x1 x2 x3 x15 x35 H =
 av x35
 (ld [.f 2] x1 H fun d =>
 (FF bF [d, (vi 5)] H).bind fun a =>
 (ap .other .add (vi 1) a.1).bind fun e =>
 ad [.f 3] x1 fun b =>
 (ar b a.2).bind fun g =>
 bO (ar b H) (ar b a.2) <|
 (FF bF [g, (vi 3)] a.2).bind fun c =>
 (ap .other .add (vi 1) c.1).bind fun i =>
 st 1 [.f 0] x3 (vi 1) c.2 fun j =>
 st 1 [.f 2] x3 e j fun k =>
 st 1 [.f 3] x3 i k fun l =>
 dv x2 x3 l)
 ((ap .other .eql x15 (vi 1)).bind fun m =>
 uu x1 x2 x3 x15 m H) :=
 (ct rfl (qB [1, 1, 1, 0, 1, 4, 1, 2]) (qB [1, 1, 1, 0, 1, 4, 1, 3]) (.tmp 35) (by kernel_rfl) (pt rfl 0 Vm (by kernel_rfl)))
theorem BC : xN x1 x2 x3 x15 H =
 (ap .other .eql x15 (vi 0)).bind fun a =>
 xO x1 x2 x3 x15 a H :=
 (bt rfl (qB [1, 1, 1, 0, 1, 4]) 0 wY (pt rfl 0 YO (by kernel_rfl)))
theorem BA : xM x1 x2 x3 H =
 ld [.f 0] x1 H fun b =>
 (FF bF [b, (vi 10)] H).bind fun a =>
 xN x1 x2 x3 a.1 a.2 :=
 (pt rfl 0 pd (pt rfl 0 YM (by kernel_rfl)))
noncomputable def Wb : OV := bh PP GG FF (qB []) (ls [x0] 64) H rW bD rW
theorem J1 {r : Value × AH} (h : (
 aQ (Value.cells x0).toList H fun b j =>
 aQ [(vi 0), (vi 0), (vi 0), (vi 0)] j fun c d =>
 ld [.f 1] b d fun k =>
 (FF bF [k, (vi 23)] d).bind fun a =>
 (ap .other .eql a.1 (vi 22)).bind fun l =>
 av l
 ((ay 4 b a.2).bind fun m =>
 (cf 4 c m a.2).bind fun e =>
 (ay 4 c e).bind fun n => some (n, e))
 (ld [.f 1] b a.2 fun o =>
 (FF bF [o, (vi 5)] a.2).bind fun g =>
 ga [(0, 1), (1, 1), (2, 1), (3, 1)] [(vi 0), (vi 0), (vi 0), (vi 0)] [(1, g.1)] fun p =>
 aQ [(vi 0), (vi 0), (vi 0), (vi 0)] g.2 fun i q =>
 (cf 4 i p q).bind fun s =>
 xM b c i s)) = some r) : FF nY [x0] H = some r :=
 fo (t := Wb x0 H) Tryz.func26 (by kernel_rfl) (Eq.trans (pt rfl 2 YK (by kernel_rfl)) h)
noncomputable def uq (p : List Nat) : Code := Code.sub (bH Tryz.f27) p
noncomputable def rX : KK := dO PP (Tryz.f27).results.toList
noncomputable def YS : KK := CQ (uq [1, 1, 1, 1]) rX bD rX
noncomputable def Z9 : OV := YS (ls [u, u, u, u, x4, x5, x6, u, u, u, u, u, x12, x13, x14, x15, x16] 79) H
noncomputable def YU : KK := CQ (uq [1, 1, 1, 1, 1]) rX bD rX
noncomputable def YQ : KK := gC Qw YU
noncomputable def YV : KK := CQ (uq [1, 1, 1, 1, 0, 1]) YQ bD rX
noncomputable def aaA : OV := YV (ls [u, u, u, u, x4, x5, x6, u, u, u, u, u, x12, x13, x14, x15, x16, x17] 78) H
noncomputable def OE : KX := BX 0 YQ bD
noncomputable def Jo : KX := A6 Qw OE
noncomputable def OC : KK := KM (uq [1, 1, 1, 1, 0, 1, 4, 5]) Jo rX
noncomputable def YR : KK := gC NC OC
noncomputable def JM : OV := OC (ls [u, u, u, u, x4, x5, x6, u, u, u, u, u, x12, x13, x14, x15, x16, x17] 78) H
noncomputable def YX : KK := CQ (uq [1, 1, 1, 1, 0, 1, 4, 5, 1]) YR Jo rX
noncomputable def aaB : OV := YX (ls [u, u, u, u, x4, x5, x6, u, u, u, u, u, x12, x13, x14, x15, x16, x17] 78) H
noncomputable def OD : KK := CQ (uq [1, 1, 1, 1, 0, 1, 4, 5, 1, 1]) YR Jo rX
noncomputable def ajE : KK := gC NC OD
noncomputable def aaC : OV := OD (ls [u, u, u, u, x4, x5, x6, u, u, u, u, u, x12, x13, x14, x15, x16, x17] 78) H
noncomputable def afK : KX := BX 1 ajE Jo
noncomputable def Z8 : OV := OE 0 (ls [u, u, u, u, x4, u, u, u, u, u, u, u, x12, x13, x14] 81) H
theorem nS : aw 79228162514264337593543921663 rX := rf
theorem YT : aw 79228162514264337593543823247 YS := rc nS aD nS
theorem DT : aw Qw YU := rc nS aD nS
theorem YW : aw NC YV := rc (cd DT) aD nS
theorem rY : ∀ i, aw Qw (OE i) := rb (cd DT) aD
theorem w4 : aw NC OC := rl (cx rY) nS
theorem YY : aw NC YX := rc (cd w4) (cx rY) nS
theorem LS : aw NC OD := rc (cd w4) (cx rY) nS
theorem Vq : ∀ i, aw NC (afK i) := rb (cd LS) (cx rY)
theorem V1 : aaC x4 x5 x6 x12 x13 x14 x15 x16 x17 H =
 (ap .other .add x17 (vi 1)).bind fun a =>
 JM x4 x5 x6 x12 x13 x14 x15 x16 a H :=
 (by kernel_rfl)
theorem V0 : aaB x4 x5 x6 x12 x13 x14 x15 x16 x17 H =
 (ap .other .add x4 x17).bind fun s =>
 (FF tK [x15, s] H).bind fun j =>
 (af j.1 0).bind fun t =>
 (af j.1 1).bind fun w =>
 aQ [(vi 0), (.slice none 0 0), (vi 0), (vw 0)] j.2 fun g y =>
 (cf 4 g t y).bind fun z =>
 (ap .other .add x4 x17).bind fun A =>
 (FF eI [x16, A] z).bind fun d =>
 (ap .bool .neq w d.1).bind fun e =>
 (gB e false (ay 4 g d.2)).bind fun B =>
 (gV e false x16).bind fun C =>
 (gV e false d.1).bind fun D =>
 (gE e false d.2 (FF kC [C, D] d.2)).bind fun i =>
 bO (ay 4 g i.2) (ay 4 g d.2) <|
 (gE e false i.2 (FF kB [B, i.1] i.2)).bind fun c =>
 (gB e false (nk .not c.1)).bind fun E =>
 (aV e (vb true) E).bind fun a =>
 fF a false  [.f 0] x6 c.2 fun G =>
 fF a false  [.n, .f 0] G c.2 fun I =>
 (gE a false c.2 (FF fA [I] c.2)).bind fun b =>
 xe a false  [.f 1] x6 fun k =>
 (gB a false (ar k b.2)).bind fun J =>
 bO (ar k c.2) (ar k b.2) <|
 xe a false  [.n, .f 5] J fun l =>
 (gB a false (ar l b.2)).bind fun K =>
 bO (ar l c.2) (ar l b.2) <|
 xe a false  [.n, .f 2] K fun m =>
 (gB a false (ar m b.2)).bind fun o =>
 bO (ar m c.2) (ar m b.2) <|
 (EI (yv a) false (iQ o some) (some undef)).bind fun L =>
 bO (Md o) (Md o) <|
 (gB a false (ap .other .neq b.1 L)).bind fun M =>
 (aV a (vb true) M).bind fun N =>
 av N
 (ga [(0, 1), (1, 1), (2, 1), (3, 1)] [(vi 0), (.slice none 0 0), (vi 0), (vw 0)] [] fun O =>
 (cf 4 x12 O b.2).bind fun p =>
 (ay 4 x12 p).bind fun P => some (Value.tuple #[P, x4, (vb false)], p))
 (av d.1
 ((ay 4 g b.2).bind fun Q =>
 (ap .other .add x4 x17).bind fun R =>
 (ap .other .add R (vi 1)).bind fun S =>
 (cf 4 x12 Q b.2).bind fun q =>
 (ay 4 x12 q).bind fun T => some (Value.tuple #[T, S, (vb true)], q))
 (aaC x4 x5 x6 x12 x13 x14 x15 x16 x17 b.2)) :=
 (pt rfl 0 LS (bt rfl (uq [1, 1, 1, 1, 0, 1, 4, 5, 1, 0, 4]) 1 Vq (by kernel_rfl)))
theorem VZ : JM x4 x5 x6 x12 x13 x14 x15 x16 x17 H =
 (ap .other .lss x17 x5).bind fun a =>
 av a
 (aaB x4 x5 x6 x12 x13 x14 x15 x16 x17 H)
 (Z8 x4 x12 x13 x14 H) :=
 KN rfl w4 (pt rfl 0 YY (by kernel_rfl))
theorem VY : aaA x4 x5 x6 x12 x13 x14 x15 x16 x17 H =
 JM x4 x5 x6 x12 x13 x14 x15 x16 x17 H :=
 (bt rfl (uq [1, 1, 1, 1, 0, 1, 4]) 0 rY (li rfl (uq [1, 1, 1, 1, 0, 1, 4, 5]) w4 (by kernel_rfl)))
theorem VX : Z9 x4 x5 x6 x12 x13 x14 x15 x16 H =
 aaA x4 x5 x6 x12 x13 x14 x15 x16 (vi 0) H :=
 (pt rfl 0 DT (pt rfl 0 YW (by kernel_rfl)))
noncomputable def lAl : OV := bh PP GG FF (uq []) (ls [x0, x1, x2, x3, x4, x5] 90) H rX bD rX
theorem ajN {r : Value × AH} (h : (
 aQ (Value.cells x0).toList H fun c l =>
 aQ (Value.cells x3).toList l fun d m =>
 aQ [(vi 0), (.slice none 0 0), (vi 0), (vw 0)] m fun e j =>
 (ay 2 c j).bind fun n =>
 (FF ij [n, x1, x2] j).bind fun b =>
 ld [.f 0] c b.2 fun o =>
 (ay 4 d b.2).bind fun p =>
 (FF tL [o, x1, p] b.2).bind fun a =>
 ad [.f 1] c fun g =>
 (ar g a.2).bind fun q =>
 bO (ar g b.2) (ar g a.2) <|
 (ay 4 d a.2).bind fun s =>
 bO (ay 4 d b.2) (ay 4 d a.2) <|
 (FF iS [q, x1, s] a.2).bind fun i =>
 (ap .ptr .eql a.1 (.pointer none)).bind fun w =>
 av w
 (ga [(0, 1), (1, 1), (2, 1), (3, 1)] [(vi 0), (.slice none 0 0), (vi 0), (vw 0)] [] fun y =>
 (cf 4 e y i.2).bind fun k =>
 (ay 4 e k).bind fun z => some (Value.tuple #[z, x4, (vb false)], k))
 (Z9 x4 x5 c e (vi 0) (vb false) a.1 i.1 i.2)) = some r) : FF aaT [x0, x1, x2, x3, x4, x5] H = some r :=
 fo (t := lAl x0 x1 x2 x3 x4 x5 H) Tryz.func27 (by kernel_rfl) (Eq.trans (pt rfl 3 YT (by kernel_rfl)) h)
end
section
variable (x0 x1 x2 x3 x4 x5 x6 x7 x8 x9 x10 x11 : Value) (H : AH)
theorem yF {r : Value × AH} (h : (
 ad [.n, .f 0] x0 fun a =>
 (ar a H).bind fun d =>
 (FF ep [x0, (vi 11), (vi 0)] H).bind fun b =>
 bO (ar a b.2) (ar a H) <|
 (FF dx [d, x1, b.1] b.2).bind fun c =>
 some (c.1, c.2)) = some r) : FF fT [x0, x1] H = some r :=
 fo Tryz.func40 (by kernel_rfl) h
theorem JX {r : Value × AH} (h : (
 aQ (Value.cells x0).toList H fun a m =>
 (ay 5 a m).bind fun n =>
 (FF oM [n] m).bind fun j =>
 (nk .not j.1).bind fun o =>
 av o
 (some (Value.tuple #[(.pointer none), (vi 1)], j.2))
 ((FF zA [] j.2).bind fun b =>
 ld [.f 0] a b.2 fun p =>
 (FF ss [b.1, p] b.2).bind fun c =>
 ad [.f 0] a fun k =>
 (ar k c.2).bind fun q =>
 bO (ar k b.2) (ar k c.2) <|
 ad [.f 1] a fun l =>
 (ar l c.2).bind fun s =>
 bO (ar l b.2) (ar l c.2) <|
 (FF sD [b.1, q, s] c.2).bind fun d =>
 ad [.f 2] a fun i =>
 (ar i d.2).bind fun t =>
 bO (ar i b.2) (ar i d.2) <|
 bO (ar i c.2) (ar i d.2) <|
 (FF vt [b.1, t] d.2).bind fun e =>
 (ay 5 a e.2).bind fun w =>
 bO (ay 5 a b.2) (ay 5 a e.2) <|
 bO (ay 5 a c.2) (ay 5 a e.2) <|
 bO (ay 5 a d.2) (ay 5 a e.2) <|
 (FF vn [w] e.2).bind fun g =>
 (ay 5 a g.2).bind fun y =>
 bO (ay 5 a b.2) (ay 5 a g.2) <|
 bO (ay 5 a c.2) (ay 5 a g.2) <|
 bO (ay 5 a d.2) (ay 5 a g.2) <|
 bO (ay 5 a e.2) (ay 5 a g.2) <|
 Ge g.2 fun z A =>
 ga [(0, 1), (1, 1), (2, 1), (3, 1), (4, 1), (5, 5), (10, 1), (11, 1), (12, 1)] [(.pointer none), (.pointer none), (.pointer none), (.pointer none), (.pointer none), (vi 0), (vi 0), (vi 0), (vi 0), (vw 0), (.slice none 0 0), (.map none), (.slice none 0 0)] [(0, b.1), (1, c.1), (2, d.1), (3, e.1), (4, g.1), (5, y), (7, z)] fun B =>
 aQ (Value.cells B).toList A fun C D =>
 some (Value.tuple #[C, (vi 0)], D))) = some r) : FF sx [x0] H = some r :=
 fo Tryz.func44 (by kernel_rfl) h
theorem BR {r : Value × AH} (h : (
 aQ (Value.cells x0).toList H fun a m =>
 ga [(0, 1), (1, 1), (2, 1)] [(.slice none 0 0), (.slice none 0 0), (.slice none 0 0)] [] fun n =>
 aQ (Value.cells n).toList m fun i b =>
 (ay 5 a b).bind fun o =>
 ld [.f 0] a b fun p =>
 (FF nc [i, p] b).bind fun c =>
 bO (ay 5 a c.2) (ay 5 a b) <|
 ad [.f 0] a fun j =>
 (ar j c.2).bind fun q =>
 bO (ar j b) (ar j c.2) <|
 ad [.f 1] a fun k =>
 (ar k c.2).bind fun s =>
 bO (ar k b) (ar k c.2) <|
 (FF ng [i, q, s] c.2).bind fun d =>
 bO (ay 5 a d.2) (ay 5 a b) <|
 ad [.f 2] a fun g =>
 (ar g d.2).bind fun t =>
 bO (ar g b) (ar g d.2) <|
 bO (ar g c.2) (ar g d.2) <|
 (FF oQ [i, t] d.2).bind fun e =>
 bO (ay 5 a e.2) (ay 5 a b) <|
 (ay 5 a e.2).bind fun w =>
 bO (ay 5 a b) (ay 5 a e.2) <|
 bO (ay 5 a c.2) (ay 5 a e.2) <|
 bO (ay 5 a d.2) (ay 5 a e.2) <|
 (FF oP [w] e.2).bind fun l =>
 bO (ay 5 a l.2) (ay 5 a b) <|
 ga [(0, 5), (5, 1), (6, 1), (7, 1), (8, 1), (9, 1), (10, 1), (11, 1), (12, 1), (13, 1)] [(vi 0), (vi 0), (vi 0), (vi 0), (vw 0), (.pointer none), (.pointer none), (.pointer none), (.pointer none), (.pointer none), (.slice none 0 0), (.slice none 0 0), (.slice none 0 0), (.slice none 0 0)] [(0, o), (1, i), (2, c.1), (3, d.1), (4, e.1), (5, l.1)] fun y =>
 aQ (Value.cells y).toList l.2 fun z A =>
 some (z, A)) = some r) : FF ne [x0] H = some r :=
 fo Tryz.func45 (by kernel_rfl) h
theorem Bg {r : Value × AH} (h : (
 aQ (Value.cells x0).toList H fun i l =>
 ld [.f 1] i l fun s =>
 ldN 5 [.n, .f 0] s l fun t =>
 aQ [(vi 0), (vi 0), (vi 0), (vi 0), (vw 0)] l fun g w =>
 (cf 5 g t w).bind fun p =>
 ld [.f 4] g p fun y =>
 (FF gA [y, x2] p).bind fun m =>
 (af m.1 0).bind fun z =>
 (af m.1 1).bind fun a3 =>
 ga [(0, 1), (1, 1), (2, 1)] [(vi 0), (vi 0), (vw 0)] [(0, x1), (1, x3), (2, z)] fun A =>
 aQ [(vi 0), (vi 0), (vw 0)] m.2 fun j B =>
 (cf 3 j A B).bind fun k =>
 ld [.f 0] i k fun C =>
 (ay 3 j k).bind fun D =>
 (FF ei [C, (vi 0), D] k).bind fun d =>
 ad [.f 1] i fun o =>
 (ar o d.2).bind fun E =>
 bO (ar o k) (ar o d.2) <|
 (ay 3 j d.2).bind fun G =>
 bO (ay 3 j k) (ay 3 j d.2) <|
 (FF il [E, (vi 0), G] d.2).bind fun c =>
 (ap .other .eql d.1 c.1).bind fun a =>
 fF a true  [.f 0] i c.2 fun I =>
 fF a true  [.n, .f 2] I c.2 fun J =>
 (gV a true x1).bind fun K =>
 fF a true  [.f 0] g c.2 fun L =>
 (gB a true (ap .other .rem K L)).bind fun M =>
 (gV a true x1).bind fun N =>
 fF a true  [.f 0] g c.2 fun O =>
 (gB a true (ap .other .quo N O)).bind fun P =>
 (gV a true x1).bind fun Q =>
 (gV a true d.1).bind fun R =>
 (gE a true c.2 (FF gL [J, (vi 0), M, P, Q, R] c.2)).bind fun e =>
 (aV a e.1 (vb false)).bind fun b =>
 fF b true  [.f 1] i e.2 fun S =>
 fF b true  [.n, .f 7] S e.2 fun T =>
 (gV b true x1).bind fun U =>
 fF b true  [.f 0] g e.2 fun V =>
 (gB b true (ap .other .rem U V)).bind fun W =>
 (gV b true x1).bind fun X =>
 fF b true  [.f 0] g e.2 fun Y =>
 (gB b true (ap .other .quo X Y)).bind fun Z =>
 (gV b true x1).bind fun a0 =>
 (gV b true c.1).bind fun a1 =>
 (gE b true e.2 (FF i4 [T, (vi 0), W, Z, a0, a1] e.2)).bind fun q =>
 (aV b q.1 (vb false)).bind fun a2 =>
 some (a2, q.2)) = some r) : FF m8 [x0, x1, x2, x3] H = some r :=
 fo Tryz.func46 (by kernel_rfl) h
noncomputable def Y3 (p : List Nat) : Code := Code.sub (bH Tryz.f47) p
noncomputable def DV : KK := dO PP (Tryz.f47).results.toList
noncomputable def Y4 : KK := CQ (Y3 [1, 1, 1]) DV bD DV
noncomputable def xu : OV := Y4 (ls [u, x1, u, u, x4, u, u, x7, x8, x9] 26) H
noncomputable def Y6 : KK := CQ (Y3 [1, 1, 1, 1]) DV bD DV
noncomputable def qh : OV := Y6 (ls [u, u, u, u, u, u, u, u, x8, x9] 26) H
theorem Cj : aw 68719476479 DV := rf
theorem Y5 : aw 68719475821 Y4 := rc Cj aD Cj
theorem Y7 : aw 68719475967 Y6 := rc Cj aD Cj
theorem qP : qh x8 x9 H =
 (ay 3 x9 H).bind fun b =>
 (cf 3 x8 b H).bind fun a =>
 (ay 3 x8 a).bind fun c => some (c, a) :=
 (by kernel_rfl)
theorem qO : xu x1 x4 x7 x8 x9 H =
 ld [.f 0] x7 H fun c =>
 (ap .other .eql c (vi 3)).bind fun d =>
 av d
 (ld [.f 0] x4 H fun e =>
 (ay 4 x7 H).bind fun g =>
 (FF tL [e, x1, g] H).bind fun a =>
 st 1 [.f 0] x9 a.1 a.2 fun i =>
 qh x8 x9 i)
 (ld [.f 0] x4 H fun j =>
 (ay 4 x7 H).bind fun k =>
 (FF zB [j, x1, k] H).bind fun b =>
 st 1 [.f 1] x9 b.1 b.2 fun l =>
 qh x8 x9 l) :=
 (pt rfl 0 Y7 (by kernel_rfl))
noncomputable def VW : OV := bh PP GG FF (Y3 []) (ls [x0, x1, x2, x3] 32) H DV bD DV
theorem JL {r : Value × AH} (h : (
 aQ (Value.cells x0).toList H fun a i =>
 aQ (Value.cells x3).toList i fun c j =>
 aQ [(.pointer none), (.pointer none), (.pointer none)] j fun k d =>
 (ay 2 a d).bind fun l =>
 (FF ij [l, x1, x2] d).bind fun b =>
 ld [.f 1] a b.2 fun m =>
 (ay 4 c b.2).bind fun n =>
 (FF iS [m, x1, n] b.2).bind fun e =>
 ga [(0, 1), (1, 1), (2, 1)] [(.pointer none), (.pointer none), (.pointer none)] [(2, e.1)] fun o =>
 aQ [(.pointer none), (.pointer none), (.pointer none)] e.2 fun g p =>
 (cf 3 g o p).bind fun q =>
 xu x1 a c k g q) = some r) : FF sw [x0, x1, x2, x3] H = some r :=
 fo (t := VW x0 x1 x2 x3 H) Tryz.func47 (by kernel_rfl) (Eq.trans (pt rfl 2 Y5 (by kernel_rfl)) h)
noncomputable def R7 (p : List Nat) : Code := Code.sub (bH Tryz.f48) p
noncomputable def DW : KK := dO PP (Tryz.f48).results.toList
noncomputable def Y8 : KK := CQ (R7 [1, 1, 1]) DW bD DW
noncomputable def pp : OV := Y8 (ls [u, u, x2, x3, x4, u, x6, x7, x8, x9, x10, x11] 62) H
noncomputable def OF : KK := CQ (R7 [1, 1, 1, 1]) DW bD DW
noncomputable def ajF : KK := gC Xy OF
noncomputable def ie : OV := OF (ls [u, u, u, x3, x4, u, x6, x7, x8, x9, x10, x11] 62) H
noncomputable def afR : KX := BX 0 ajF bD
theorem Ck : aw 18889465931478580854335 DW := rf
theorem Y9 : aw 18889465931478580850723 Y8 := rc Ck aD Ck
theorem LT : aw Xy OF := rc Ck aD Ck
theorem Vt : ∀ i, aw Xy (afR i) := rb (cd LT) aD
theorem t4 : ie x3 x4 x6 x7 x8 x9 x10 x11 H =
 (ay 4 x9 H).bind fun m =>
 (ap .bool .eql x10 x11).bind fun d =>
 (gB d true (ay 4 x9 H)).bind fun o =>
 fF d true  [.f 2] x3 H fun p =>
 (gV d true x11).bind fun q =>
 (gE d true H (FF kC [p, q] H)).bind fun e =>
 bO (ay 4 x9 e.2) (ay 4 x9 H) <|
 bO (ay 4 x9 e.2) (ay 4 x9 H) <|
 (gE d true e.2 (FF kB [o, e.1] e.2)).bind fun c =>
 bO (ay 4 x9 c.2) (ay 4 x9 H) <|
 (aV d c.1 (vb false)).bind fun a =>
 fF a true  [.f 0] x4 c.2 fun s =>
 fF a true  [.n, .f 0] s c.2 fun t =>
 (gE a true c.2 (FF fA [t] c.2)).bind fun b =>
 bO (ay 4 x9 b.2) (ay 4 x9 H) <|
 xe a true  [.f 1] x4 fun g =>
 (gB a true (ar g b.2)).bind fun w =>
 bO (ar g c.2) (ar g b.2) <|
 xe a true  [.n, .f 5] w fun i =>
 (gB a true (ar i b.2)).bind fun y =>
 bO (ar i c.2) (ar i b.2) <|
 xe a true  [.n, .f 2] y fun j =>
 (gB a true (ar j b.2)).bind fun k =>
 bO (ar j c.2) (ar j b.2) <|
 (EI (yv a) true (iQ k some) (some undef)).bind fun z =>
 bO (Md k) (Md k) <|
 (gB a true (ap .other .eql b.1 z)).bind fun A =>
 (aV a A (vb false)).bind fun B =>
 (cf 4 x6 m b.2).bind fun l =>
 bO (ar g l) (ar g b.2) <|
 bO (ar i l) (ar i b.2) <|
 bO (ar j l) (ar j b.2) <|
 bO (Md k) (Md k) <|
 (ay 4 x6 l).bind fun C => some (Value.tuple #[C, x11, B], l) :=
 (by kernel_rfl)
theorem lR : pp x2 x3 x4 x6 x7 x8 x9 x10 x11 H =
 ld [.f 0] x3 H fun j =>
 (ap .ptr .neq j (.pointer none)).bind fun k =>
 av k
 (ld [.f 0] x3 H fun l =>
 (FF tK [l, x2] H).bind fun a =>
 (af a.1 0).bind fun m =>
 (af a.1 1).bind fun n =>
 (cf 4 x9 m a.2).bind fun c =>
 ld [.f 2] x3 c fun o =>
 (FF eI [o, x2] c).bind fun d =>
 ie x3 x4 x6 x7 x8 x9 n d.1 d.2)
 (ld [.f 1] x3 H fun p =>
 (ap .ptr .neq p (.pointer none)).bind fun q =>
 av q
 (ld [.f 1] x3 H fun s =>
 (FF ni [s, x2] H).bind fun b =>
 (af b.1 0).bind fun t =>
 (af b.1 1).bind fun w =>
 (cf 4 x9 t b.2).bind fun e =>
 ld [.f 2] x3 e fun y =>
 (FF bq [y, x2] e).bind fun g =>
 ie x3 x4 x6 x7 x8 x9 w g.1 g.2)
 ((ay 4 x9 H).bind fun z =>
 (cf 4 x6 z H).bind fun i =>
 (ay 4 x6 i).bind fun A => some (Value.tuple #[A, (vb false), (vb false)], i))) :=
 (pt rfl 0 LT (bt rfl (R7 [1, 1, 1, 0, 4]) 0 Vt (by kernel_rfl)))
noncomputable def Ga : OV := bh PP GG FF (R7 []) (ls [x0, x1, x2] 71) H DW bD DW
theorem pr {r : Value × AH} (h : (
 aQ (Value.cells x0).toList H fun a b =>
 aQ (Value.cells x1).toList b fun c d =>
 aQ [(vi 0), (.slice none 0 0), (vi 0), (vw 0)] d fun e f =>
 aQ [(vi 0), (.slice none 0 0), (vi 0), (vw 0)] f fun g i =>
 pp x2 a c e (vb false) (vb false) g (vb false) (vb false) i) = some r) : FF lI [x0, x1, x2] H = some r :=
 fo (t := Ga x0 x1 x2 H) Tryz.func48 (by kernel_rfl) (Eq.trans (pt rfl 2 Y9 (by kernel_rfl)) h)
theorem pg {r : Value × AH} (h : (
 (FF sr [x0, x1, (.func (.func oL) #[] #[])] H).bind fun a =>
 some (a.1, a.2)) = some r) : FF gb [x0, x1] H = some r :=
 fo Tryz.func49 (by kernel_rfl) h
theorem MC {r : Value × AH} (h : (
 aQ [(vi 0), (.slice none 0 0), (vi 0), (vw 0)] H fun a c =>
 ga [(0, 1), (1, 1), (2, 1), (3, 1)] [(vi 0), (.slice none 0 0), (vi 0), (vw 0)] [(0, x0)] fun d =>
 (cf 4 a d c).bind fun b =>
 (ay 4 a b).bind fun e => some (e, b)) = some r) : FF jf [x0] H = some r :=
 fo Tryz.func50 (by kernel_rfl) h
noncomputable def pe (p : List Nat) : Code := Code.sub (bH Tryz.f51) p
noncomputable def mT : KK := dO PP (Tryz.f51).results.toList
noncomputable def Zc : KK := CQ (pe [1]) mT bD mT
noncomputable def kc : OV := Zc (ls [x0, u, u, x3, x4] 110) H
noncomputable def OG : KK := CQ (pe [1, 1]) mT bD mT
noncomputable def ajG : KK := gC Qu OG
noncomputable def kf : OV := OG (ls [x0, u, u, x3, x4] 110) H
noncomputable def Ze : KK := CQ (pe [1, 1, 1]) mT bD mT
noncomputable def kg : OV := Ze (ls [x0, u, u, x3, x4, x5] 109) H
noncomputable def OH : KK := CQ (pe [1, 1, 1, 1]) mT bD mT
noncomputable def Zb : KK := gC K8 OH
noncomputable def ki : OV := OH (ls [x0, u, u, x3, x4, x5] 109) H
noncomputable def R9 : KK := CQ (pe [1, 1, 1, 0, 1]) Zb bD mT
noncomputable def jX : OV := R9 (ls [x0, u, u, x3, x4, x5, x6] 108) H
noncomputable def Ju : KX := BX 1 Zb bD
noncomputable def Cm : KX := A6 K8 Ju
noncomputable def Js : KK := KM (pe [1, 1, 1, 0, 1, 4, 5]) Cm mT
noncomputable def R8 : KK := gC NB Js
noncomputable def dU : OV := Js (ls [x0, u, u, x3, x4, x5, x6] 108) H
noncomputable def Sa : KK := CQ (pe [1, 1, 1, 0, 1, 4, 5, 1]) R8 Cm mT
noncomputable def jY : OV := Sa (ls [x0, u, u, x3, x4, x5, x6] 108) H
noncomputable def Jt : KK := CQ (pe [1, 1, 1, 0, 1, 4, 5, 1, 1]) R8 Cm mT
noncomputable def afS : KK := gC NB Jt
noncomputable def dV : OV := Jt (ls [x0, u, u, x3, x4, x5, x6] 108) H
noncomputable def afT : KX := BX 2 afS Cm
noncomputable def iT : OV := Ju 1 (ls [x0, u, u, x3, x4, x5] 109) H
noncomputable def afU : KX := BX 0 ajG bD
theorem iV : aw 41538374868278621028243970633760751 mT := rf
theorem Zd : aw Qu Zc := rc iV aD iV
theorem LU : aw Qu OG := rc iV aD iV
theorem Zf : aw K8 Ze := rc iV aD iV
theorem DX : aw K8 OH := rc iV aD iV
theorem Vu : aw NB R9 := rc (cd DX) aD iV
theorem pf : ∀ i, aw K8 (Ju i) := rb (cd DX) aD
theorem tF : aw NB Js := rl (cx pf) iV
theorem Vv : aw NB Sa := rc (cd tF) (cx pf) iV
theorem Ha : aw NB Jt := rc (cd tF) (cx pf) iV
theorem Vw : ∀ i, aw NB (afT i) := rb (cd Ha) (cx pf)
theorem Vx : ∀ i, aw Qu (afU i) := rb (cd LU) aD
theorem oW : ki x0 x3 x4 x5 H =
 ld [.n, .f 0, .f 1] x0 H fun b =>
 (ap .other .geq x5 b).bind fun c =>
 av c
 (some ((vi 7), H))
 (ld [.n, .f 0, .f 4] x0 H fun d =>
 ld [.f 2] x3 H fun e =>
 (FF gA [d, e] H).bind fun a =>
 (af a.1 0).bind fun g =>
 (af a.1 1).bind fun m =>
 ld [.n, .f 5] x0 a.2 fun i =>
 ld [.f 1] x3 a.2 fun j =>
 ld [.f 3] x3 a.2 fun k =>
 (FF oO [i, j, g, k] a.2).bind fun l =>
 some ((vi 0), l.2)) :=
 (by kernel_rfl)
theorem nL : dV x0 x3 x4 x5 x6 H =
 (ap .other .add x6 (vi 1)).bind fun a =>
 dU x0 x3 x4 x5 a H :=
 (by kernel_rfl)
theorem nK : jY x0 x3 x4 x5 x6 H =
 ld [.n, .f 5] x0 H fun a =>
 ld [.n, .f 0] a H fun b =>
 ld [.i 1 x6] b H fun c =>
 ld [.n, .f 0] c H fun d =>
 ld [.n, .f 0, .f 0] x0 H fun e =>
 (ap .other .rem d e).bind fun g =>
 ld [.f 1] x3 H fun j =>
 ld [.n, .f 0, .f 0] x0 H fun k =>
 (ap .other .rem j k).bind fun l =>
 (ap .other .eql g l).bind fun m =>
 av m
 ((ap .other .add x5 (vi 1)).bind fun o =>
 dV x0 x3 x4 o x6 H)
 (dV x0 x3 x4 x5 x6 H) :=
 (pt rfl 0 Ha (bt rfl (pe [1, 1, 1, 0, 1, 4, 5, 1, 0, 4]) 2 Vw (by kernel_rfl)))
theorem mg : iT x0 x3 x4 x5 H = ki x0 x3 x4 x5 H :=
 (by kernel_rfl)
theorem iA : dU x0 x3 x4 x5 x6 H =
 ld [.n, .f 5] x0 H fun a =>
 ld [.n, .f 0] a H fun b =>
 iQ b fun c =>
 (ap .other .lss x6 c).bind fun d =>
 av d
 (jY x0 x3 x4 x5 x6 H)
 (iT x0 x3 x4 x5 H) :=
 KN rfl tF (pt rfl 0 Vv (by kernel_rfl))
theorem nJ : jX x0 x3 x4 x5 x6 H =
 dU x0 x3 x4 x5 x6 H :=
 (bt rfl (pe [1, 1, 1, 0, 1, 4]) 1 pf (li rfl (pe [1, 1, 1, 0, 1, 4, 5]) tF (by kernel_rfl)))
theorem oV : kg x0 x3 x4 x5 H =
 jX x0 x3 x4 x5 (vi 0) H :=
 (pt rfl 0 DX (pt rfl 0 Vu (by kernel_rfl)))
theorem oU : kf x0 x3 x4 H =
 kg x0 x3 x4 (vi 0) H :=
 (pt rfl 0 Zf (by kernel_rfl))
theorem oT : kc x0 x3 x4 H =
 ld [.f 1] x3 H fun e =>
 (ap .other .lss e (vi 0)).bind fun a =>
 fF a false  [.f 1] x3 H fun g =>
 (gB a false (ap .other .gtr g (vi 1048576))).bind fun i =>
 (aV a (vb true) i).bind fun j =>
 av j
 (some ((vi 1), H))
 (ld [.f 2] x3 H fun k =>
 (ap .other .lss k (vi 1)).bind fun b =>
 fF b false  [.f 2] x3 H fun l =>
 (gB b false (ap .other .gtr l (vi 65536))).bind fun m =>
 (aV b (vb true) m).bind fun o =>
 av o
 (some ((vi 4), H))
 (ld [.f 3] x3 H fun p =>
 (ap .other .lss p (vi 1)).bind fun c =>
 fF c false  [.f 3] x3 H fun q =>
 (gB c false (ap .other .gtr q (vi 8))).bind fun s =>
 (aV c (vb true) s).bind fun t =>
 av t
 (some ((vi 1), H))
 (ld [.n, .f 5] x0 H fun w =>
 ld [.f 1] x3 H fun y =>
 (FF ik [w, y] H).bind fun d =>
 (ap .other .geq d.1 (vi 0)).bind fun z =>
 av z
 (some ((vi 6), d.2))
 (kf x0 x3 x4 d.2)))) :=
 (pt rfl 0 LU (bt rfl (pe [1, 0, 4]) 0 Vx (by kernel_rfl)))
noncomputable def vH : OV := bh PP GG FF (pe []) (ls [x0, x1] 113) H mT bD mT
theorem rq {r : Value × AH} (h : (
 aQ (Value.cells x1).toList H fun a b =>
 kc x0 a (vi 0) b) = some r) : FF g7 [x0, x1] H = some r :=
 fo (t := vH x0 x1 H) Tryz.func51 (by kernel_rfl) (Eq.trans (pt rfl 0 Zd (by kernel_rfl)) h)
noncomputable def Sb (p : List Nat) : Code := Code.sub (bH Tryz.f52) p
noncomputable def DY : KK := dO PP (Tryz.f52).results.toList
noncomputable def Zg : KK := CQ (Sb [1, 1]) DY bD DY
noncomputable def ol : OV := Zg (ls [x0, u, u, u, x4, x5] 39) H
noncomputable def OI : KK := CQ (Sb [1, 1, 1]) DY bD DY
noncomputable def ajH : KK := gC QC OI
noncomputable def oo : OV := OI (ls [x0, u, u, u, x4, x5] 39) H
noncomputable def afV : KX := BX 0 ajH bD
theorem Cn : aw 35184372088815 DY := rf
theorem Zh : aw QC Zg := rc Cn aD Cn
theorem LV : aw QC OI := rc Cn aD Cn
theorem Vy : ∀ i, aw QC (afV i) := rb (cd LV) aD
theorem sL : oo x0 x4 x5 H =
 ld [.n, .f 0] x0 H fun c =>
 (dT 1 c none (some x5)).bind fun d =>
 (fj 1 8 (.slice none 0 0) d H).bind fun a =>
 ld [.n, .f 0] x0 a.2 fun e =>
 (ap .other .add x5 (vi 1)).bind fun g =>
 (dT 1 e (some g) none).bind fun i =>
 (fj 1 8 a.1 i a.2).bind fun b =>
 st 1 [.n, .f 0] x0 b.1 b.2 fun j =>
 some ((vi 0), j) :=
 (by kernel_rfl)
theorem sK : ol x0 x4 x5 H =
 (ap .other .lss x5 (vi 0)).bind fun a =>
 av a
 (some ((vi 5), H))
 (ld [.n, .f 0] x0 H fun b =>
 ld [.i 1 x5] b H fun c =>
 ld [.n, .f 3] c H fun d =>
 iQ d fun e =>
 (ap .other .gtr e (vi 0)).bind fun g =>
 av g
 (some ((vi 8), H))
 (oo x0 x4 x5 H)) :=
 (pt rfl 0 LV (bt rfl (Sb [1, 1, 0, 4]) 0 Vy (by kernel_rfl)))
noncomputable def ET : OV := bh PP GG FF (Sb []) (ls [x0, x1] 43) H DY bD DY
theorem yf {r : Value × AH} (h : (
 (FF ik [x0, x1] H).bind fun a =>
 ol x0 (vi 0) a.1 a.2) = some r) : FF kE [x0, x1] H = some r :=
 fo (t := ET x0 x1 H) Tryz.func52 (by kernel_rfl) (Eq.trans (pt rfl 1 Zh (by kernel_rfl)) h)
theorem ye {r : Value × AH} (h : (
 aQ (Value.cells x1).toList H fun c d =>
 ld [.f 0] c d fun e =>
 (FF ik [x0, e] d).bind fun a =>
 (ap .other .lss a.1 (vi 0)).bind fun g =>
 av g
 (some ((vi 5), a.2))
 (ld [.n, .f 0] x0 a.2 fun j =>
 ld [.i 1 a.1] j a.2 fun k =>
 ld [.n, .f 1] x0 a.2 fun l =>
 (ay 3 c a.2).bind fun m =>
 (FF jK [k, l, m] a.2).bind fun b =>
 (nk .not b.1).bind fun o =>
 av o
 (some ((vi 9), b.2))
 (some ((vi 0), b.2)))) = some r) : FF kD [x0, x1] H = some r :=
 fo Tryz.func53 (by kernel_rfl) h
theorem Br {r : Value × AH} (h : (
 aQ (Value.cells x2).toList H fun a b =>
 (ay 3 a b).bind fun e =>
 (FF dy [x0, x1, (vi 1), e] b).bind fun c =>
 (ay 3 a c.2).bind fun f =>
 (FF fO [x0, f] c.2).bind fun d =>
 some (d.1, d.2)) = some r) : FF dx [x0, x1, x2] H = some r :=
 fo Tryz.func56 (by kernel_rfl) h
theorem Gz {r : Value × AH} (h : (
 aQ [(vi 0), (vi 0), (vi 0)] H fun a c =>
 ga [(0, 1), (1, 1), (2, 1)] [(vi 0), (vi 0), (vi 0)] [(0, (vi 10)), (1, x0), (2, x1)] fun d =>
 (cf 3 a d c).bind fun b =>
 (ay 3 a b).bind fun e => some (e, b)) = some r) : FF jP [x0, x1] H = some r :=
 fo Tryz.func57 (by kernel_rfl) h
theorem t8 {r : Value × AH} (h : (
 (ap .other .geq x1 (vi 0)).bind fun a =>
 (gV a true x1).bind fun b =>
 (gV a true x0).bind fun c =>
 fF a true  [.n, .f 10] c H fun d =>
 (EI (yv a) true (iQ d some) (some undef)).bind fun e =>
 (gB a true (ap .other .lss b e)).bind fun g =>
 (aV a g (vb false)).bind fun i =>
 some (i, H)) = some r) : FF ge [x0, x1] H = some r :=
 fo Tryz.func58 (by kernel_rfl) h
theorem Bt {r : Value × AH} (h : (
 aQ (Value.cells x2).toList H fun b a =>
 (ay 3 b a).bind fun c =>
 (FF dy [x0, x1, (vi 5), c] a).bind fun d =>
 some (Value.tuple #[], d.2)) = some r) : FF m9 [x0, x1, x2] H = some r :=
 fo Tryz.func59 (by kernel_rfl) h
theorem xo {r : Value × AH} (h : (
 aQ (Value.cells x0).toList H fun a b =>
 ld [.f 0] a b fun d =>
 (FF iI [d, x1, x2] b).bind fun c =>
 ld [.f 1] a c.2 fun e =>
 (FF jN [e, x1, x2] c.2).bind fun g =>
 some (Value.tuple #[], g.2)) = some r) : FF ij [x0, x1, x2] H = some r :=
 fo Tryz.func60 (by kernel_rfl) h
theorem N2 {r : Value × AH} (h : (
 aQ (Value.cells x2).toList H fun b a =>
 (ay 4 b a).bind fun e =>
 ld [.n, .f 2] x0 a fun g =>
 ld [.f 1] b a fun i =>
 (FF dK [g, i] a).bind fun c =>
 bO (ay 4 b c.2) (ay 4 b a) <|
 ga [(0, 1), (1, 1), (2, 4), (6, 1), (7, 1), (8, 1), (9, 1), (10, 1), (11, 1), (12, 1), (13, 1), (14, 1), (15, 1)] [(.pointer none), (vi 0), (vi 0), (vi 0), (vi 0), (vi 0), (vi 0), Value.nilFunc, (vi 0), (vi 0), (vb false), (.pointer none), (vw 0), (vw 0), (vi 0), (vw 0)] [(0, x0), (1, x1), (2, e), (3, c.1)] fun j =>
 aQ (Value.cells j).toList c.2 fun d k =>
 st 1 [.n, .f 7] d (.func (.func m6) #[d] #[]) k fun l =>
 some (d, l)) = some r) : FF tL [x0, x1, x2] H = some r :=
 fo Tryz.func61 (by kernel_rfl) h
theorem sN {r : Value × AH} (h : (
 aQ (Value.cells x2).toList H fun b a =>
 (ay 4 b a).bind fun c =>
 ga [(0, 1), (1, 1), (2, 4), (6, 1), (7, 1), (8, 1), (9, 1), (10, 1), (11, 1), (12, 1), (13, 1), (14, 1), (15, 1), (16, 1), (17, 4), (21, 1), (22, 1), (23, 1), (24, 1), (25, 1), (26, 3), (29, 1), (30, 4)] [(.pointer none), (vi 0), (vi 0), (vi 0), (vi 0), (vi 0), (vi 0), (vi 0), (vi 0), (vb false), (vi 0), (vw 0), (vw 0), (vw 0), (vw 0), (vw 0), (vi 0), (vi 0), (.slice none 0 0), (vi 0), (vw 0), (vi 0), (vi 0), (.slice none 0 0), (vw 0), (vw 0), (vi 0), (vi 0), (vi 0), (vb false), (vi 0), (.slice none 0 0), (vi 0), (vw 0)] [(0, x0), (1, x1), (2, c), (5, (vi (-1)))] fun d =>
 aQ (Value.cells d).toList a fun e f =>
 some (e, f)) = some r) : FF iS [x0, x1, x2] H = some r :=
 fo Tryz.func62 (by kernel_rfl) h
theorem NM {r : Value × AH} (h : (
 aQ [(vi 0), (.slice none 0 0), (vi 0), (vw 0)] H fun b d =>
 ld [.n, .f 7] x0 d fun g =>
 (di g [x1]).bind fun c => (FF c.1 c.2 d).bind fun a =>
 (af a.1 0).bind fun i =>
 (af a.1 1).bind fun j =>
 (cf 4 b i a.2).bind fun e =>
 (ay 4 b e).bind fun k => some (Value.tuple #[k, j], e)) = some r) : FF tK [x0, x1] H = some r :=
 fo Tryz.func63 (by kernel_rfl) h
end
end Go.Proofs.YtghoamdlcjdfjaaGreatDoor.Gst
