/- Several texts in one. -/
import Derived.Test.YtghoamdlcjdfjaaGreatDoorOa
namespace Go.Proofs.YtghoamdlcjdfjaaGreatDoor.Gst
open Go Go.RowKit
set_option linter.unusedSimpArgs false
def vc (ops : List Oper) : Bool :=
 let ms := cf ops
 ops.zipIdx.all (fun p => p.1.after.toList.all fun e => !Region.binds .any e || decide (e.on < p.2)) &&
 ops.zipIdx.all fun q => (ops.zipIdx.take q.2).all fun p => fb ms p.2 q.2 || (p.1.apart ops.toArray q.1 && !(lA p.1.op == 3 && lA q.1.op == 3))
def dY (ops : List Oper) : List (Nat × Nat) :=
 let ms := cf ops
 (ops.zipIdx.filter fun p => lA p.1.op == 2).flatMap fun p => ((ops.zipIdx.filter fun q => lA q.1.op == 3 && !fb ms q.2 p.2 && !fb ms p.2 q.2).map fun q => (p.2, q.2))
def jY (P : Program) (G : List Nat) (call : bG) (ops : Array Oper) (A : List Value) (H : AH) (i : Nat) : List Value × AH := (dk P G call ops (ops.toList.take i) A H).getD (A, H)
def j6 (P : Program) (s : Nat → List Value × AH) (ops : Array Oper) (p : Nat × Nat) : Prop :=
 ∀ o, ops[p.1]? = some o → Ep P (fX (s p.1).1) o.op (s (if p.2 < p.1 then p.2 else p.2 + 1)).2 = Ep P (fX (s p.1).1) o.op (s p.1).2
open Classical in
noncomputable def Nr {α : Type} (p : Prop) (x : Option α) : Option α := if p then x else none
theorem o8 {α : Type} {p : Prop} {x : Option α} {r : α} (h : Nr p x = some r) : p ∧ x = some r := by
 unfold Nr at h
 split at h
 ·exact ⟨by assumption, h⟩
 ·cases h
theorem kU {α : Type} {p : Prop} (h : p) (x : Option α) : Nr p x = x := by unfold Nr; rw [if_pos h]
noncomputable def nQ (P : Program) (G : List Nat) (call : bG) (ops : Array Oper) (A : List Value) (H : AH) : Option (List Value × AH) :=
 match vc ops.toList with
 | false => none
 | true => match dY ops.toList with
  | [] => dk P G call ops ops.toList A H
  | p :: ps => Nr (∀ q ∈ p :: ps, j6 P (jY P G call ops A H) ops q) (dk P G call ops ops.toList A H)
theorem gF {P : Program} {G : List Nat} {call : bG} {ops : Array Oper} {A : List Value} {H : AH} {r : List Value × AH} (h : nQ P G call ops A H = some r) :
 vc ops.toList = true ∧ (∀ p ∈ dY ops.toList, j6 P (jY P G call ops A H) ops p) ∧ dk P G call ops ops.toList A H = some r := by
 unfold nQ at h
 cases h1 : vc ops.toList with
 | false => rw [h1] at h; cases h
 | true =>
  rw [h1] at h;refine ⟨rfl, ?_⟩
  cases h2 : dY ops.toList with
  | nil => rw [h2] at h; exact ⟨fun p hp => (by cases hp), h⟩
  | cons p ps =>
   rw [h2] at h;exact o8 h
section
variable {P : Program} {w0 : World} {B : Nat} {ρ : bN} {H : AH} {w : World} {G : List Nat} {call : bG} {ops : Array Oper}
theorem Bp (l1 l2 : List Oper) (A : List Value) (H : AH) : dk P G call ops (l1 ++ l2) A H = (dk P G call ops l1 A H).bind fun s => dk P G call ops l2 s.1 s.2 := by
 induction l1 generalizing A H with
 | nil => rfl
 | cons o l ih =>
  simp only [List.cons_append, dk];rw [Option.bind_assoc]
  congr 1
  funext s
  exact ih s.1 s.2
theorem zC {A : List Value} {r : List Value × AH} (h : dk P G call ops ops.toList A H = some r) (i : Nat) : dk P G call ops (ops.toList.take i) A H = some (jY P G call ops A H i) := by
 unfold jY;have e : ops.toList = ops.toList.take i ++ ops.toList.drop i := (List.take_append_drop ..).symm;rw [e, Bp] at h;obtain ⟨s, hs, _⟩ := aH.1 h;rw [hs]; rfl
theorem aiY (A : List Value) : jY P G call ops A H 0 = (A, H) := rfl
theorem anF {A : List Value} {r : List Value × AH} (h : dk P G call ops ops.toList A H = some r) : jY P G call ops A H ops.size = r := by
 unfold jY;rw [show ops.size = ops.toList.length by simp, List.take_length, h]
 rfl
theorem OO {A : List Value} {r : List Value × AH} (h : dk P G call ops ops.toList A H = some r) {i : Nat} {o : Oper} (ho : ops[i]? = some o) :
 gG P G call ops o (jY P G call ops A H i).1 (jY P G call ops A H i).2 = some (jY P G call ops A H (i + 1)) := by
 have ho' : ops.toList[i]? = some o := by simpa using ho
 have h1 := zC h (i + 1);rw [List.take_add_one, ho', Option.toList_some, Bp, zC h i] at h1;simp only [bJ, dk] at h1;obtain ⟨s, hs, e⟩ := aH.1 h1;rw [hs];exact e
noncomputable def ar0 (P : Program) (G : List Nat) (call : bG) (ops : Array Oper) (A : List Value) (H : AH) (i : Nat) : Value :=
 match ops[i]? with
 | some o => if Region.wanted o (dO ops (jY P G call ops A H i).1) = true then ((fe P call (fX (jY P G call ops A H i).1) o (jY P G call ops A H i).2).map (·.1)).getD undef else undef
 | none => undef
theorem RX (h : vc ops.toList = true) : ∀ j o, ops[j]? = some o → ∀ e ∈ o.after, Region.binds .any e = true → e.on < j := by
 intro j o ho e he hb;unfold vc at h;simp only [Bool.and_eq_true, List.all_eq_true] at h
 have ho' : ops.toList[j]? = some o := by simpa using ho
 have hm : (o, j) ∈ ops.toList.zipIdx := by
  rw [List.mem_iff_getElem?];exact ⟨j, by rw [List.getElem?_zipIdx, ho']; simp⟩
 have := h.1 (o, j) hm e (by simpa using he)
 simpa [hb] using this
theorem RY (h : vc ops.toList = true) : ∀ i j oi oj, i < j → ops[i]? = some oi → ops[j]? = some oj → fb (cf ops.toList) i j = true ∨ (oi.apart ops oj = true ∧ ¬ (lA oi.op = 3 ∧ lA oj.op = 3)) := by
 intro i j oi oj hij hi hj;unfold vc at h;simp only [Bool.and_eq_true, List.all_eq_true] at h
 have hi' : ops.toList[i]? = some oi := by simpa using hi
 have hj' : ops.toList[j]? = some oj := by simpa using hj
 have hm : (oj, j) ∈ ops.toList.zipIdx := by
  rw [List.mem_iff_getElem?];exact ⟨j, by rw [List.getElem?_zipIdx, hj']; simp⟩
 have hm2 : (oi, i) ∈ ops.toList.zipIdx.take j := by
  rw [List.mem_iff_getElem?];exact ⟨i, by rw [List.getElem?_take, if_pos hij, List.getElem?_zipIdx, hi']; simp⟩
 have := h.2 (oj, j) hm (oi, i) hm2;simp only [Bool.or_eq_true, Bool.and_eq_true, Bool.not_eq_true', Bool.and_eq_false_iff, beq_eq_false_iff_ne, Array.toArray_toList] at this
 rcases this with h1 | ⟨h1, h2⟩
 ·exact .inl h1
 ·exact .inr ⟨h1, fun h3 => by rcases h2 with h2 | h2; exact h2 h3.1; exact h2 h3.2⟩
theorem HX {j e : Nat} {oj oe : Oper} (hj : ops[j]? = some oj) (he : ops[e]? = some oe) (h2 : lA oj.op = 2) (h3 : lA oe.op = 3) (hf1 : fb (cf ops.toList) e j = false) (hf2 : fb (cf ops.toList) j e = false) : (j, e) ∈ dY ops.toList := by
 have hj' : ops.toList[j]? = some oj := by simpa using hj
 have he' : ops.toList[e]? = some oe := by simpa using he
 unfold dY;simp only [List.mem_flatMap, List.mem_filter, List.mem_map];refine ⟨(oj, j), ⟨?_, by simp [h2]⟩, (oe, e), ⟨?_, by simp [h3, hf1, hf2]⟩, rfl⟩
 ·rw [List.mem_iff_getElem?]; exact ⟨j, by rw [List.getElem?_zipIdx, hj']; simp⟩
 ·rw [List.mem_iff_getElem?]; exact ⟨e, by rw [List.getElem?_zipIdx, he']; simp⟩
noncomputable def aoH {A : List Value} {r : List Value × AH} (h : nQ P G call ops A H = some r) : Tra P G call ops where
 s := jY P G call ops A H
 val := ar0 P G call ops A H
 step := fun i o ho => by
  obtain ⟨_, _, hr⟩ := gF h;have hs := OO hr ho;unfold gG at hs
  split at hs
  ·rename_i hok
   refine ⟨hok, ?_⟩;unfold ar0;rw [ho];simp only
   split at hs
   ·rename_i hw
    obtain ⟨⟨v, H2⟩, hv, e⟩ := bj.1 hs;rw [if_pos hw, hv, ← e];exact ⟨rfl, .inl ⟨hw, rfl⟩⟩
   ·rename_i hw
    rw [if_neg hw];have e := (gD hs).symm;rw [e];exact ⟨rfl, .inr ⟨by simpa using hw, rfl, rfl⟩⟩
  ·cases hs
 back := RX (gF h).1
 pair := RY (gF h).1
 look := fun j e oj oe hj he h2 h3 hf1 hf2 => (gF h).2.1 (j, e) (HX hj he h2 h3 hf1 hf2) oj hj
theorem PJ (hcall : mM P G call) (hmono : iB call) (hm : P.follows .mixedOrders = true) {id : Nat} {Q : Exit → Act → World → Prop} {A : List Value} {a : Act} {A' : List Value} {H' : AH} (h : nQ P G call ops A H = some (A', H'))
 (hA : cu P ρ A a) (hG : GlobRel ρ G) (hR : Rel P w0 B ρ H w) (hQ : ∀ a' w', Eg P w0 B G ρ H w A' H' a' w' → Q .normal a' w') : (Code.region id ops true).wp P Q a w := by
 have W : Way (aoH h) w0 B ρ w.drew := ⟨hcall, hmono, hG, hR.drew, ⟨a, hA⟩⟩;refine R5 W hm (w := w) rfl hA (fun a' w' hp => hQ a' w' ?_);obtain ⟨ρ', h1, h2, h3, h4⟩ := hp;have e : (aoH h).s ops.size = (A', H') := anF (gF h).2.2;rw [e] at h1 h3 h4;exact ⟨ρ', h1, h2, jd.of_drew h3, h4⟩
end
inductive AE where
 | normal
 | exit (id : Nat)
 | ret
deriving DecidableEq
abbrev AR := AE × List Value × AH
def fC (f : List Value → AH → Option AR) : Nat → List Value → AH → Option AR
 | 0, _, _ => none
 | n + 1, A, H => (f A H).bind fun r => match r.1 with
  | .normal => fC f n r.2.1 r.2.2
  | _ => some r
theorem En {f : List Value → AH → Option AR} {n : Nat} {A : List Value} {H : AH} {r : AR} (h : fC f n A H = some r) : ∀ m, n ≤ m → fC f m A H = some r := by
 induction n generalizing A H with
 | zero => cases h
 | succ n ih =>
  intro m hm;obtain ⟨m, rfl⟩ : ∃ k, m = k + 1 := ⟨m - 1, by omega⟩;simp only [fC] at h ⊢;obtain ⟨s, hs, h⟩ := aH.1 h;rw [hs];simp only [bJ]
  split at h
  ·exact ih h m (by omega)
  ·exact h
open Classical in
noncomputable def qP (f : List Value → AH → Option AR) (A : List Value) (H : AH) : Option AR := if h : ∃ n r, fC f n A H = some r then some h.choose_spec.choose else none
theorem dj {f : List Value → AH → Option AR} {A : List Value} {H : AH} {r : AR} : qP f A H = some r ↔ ∃ n, fC f n A H = some r := by
 unfold qP
 constructor
 ·intro h
  split at h
  ·rename_i hx
   cases h;exact ⟨_, hx.choose_spec.choose_spec⟩
  ·cases h
 ·rintro ⟨n, hn⟩
  have hx : ∃ n r, fC f n A H = some r := ⟨n, r, hn⟩;rw [dif_pos hx];have h1 := En hx.choose_spec.choose_spec (max n hx.choose) (Nat.le_max_right ..);have h2 := En hn (max n hx.choose) (Nat.le_max_left ..);rw [h2] at h1;exact h1.symm
theorem abG (f : List Value → AH → Option AR) (A : List Value) (H : AH) : qP f A H = (f A H).bind fun r => match r.1 with | .normal => qP f r.2.1 r.2.2 | _ => some r := by
 apply Option.ext;intro r;rw [dj]
 constructor
 ·rintro ⟨n, hn⟩
  cases n with
  | zero => cases hn
  | succ n =>
   simp only [fC] at hn;obtain ⟨s, hs, h⟩ := aH.1 hn;rw [hs];simp only [bJ]
   split at h
   ·exact dj.2 ⟨n, h⟩
   ·exact h
 ·intro h
  obtain ⟨s, hs, h⟩ := aH.1 h
  split at h
  ·rename_i e
   obtain ⟨n, hn⟩ := dj.1 h;refine ⟨n + 1, ?_⟩;simp only [fC, hs, bJ, e];exact hn
  ·rename_i e
   refine ⟨1, ?_⟩;simp only [fC, hs, bJ];exact h
noncomputable def gm (P : Program) (G : List Nat) (call : bG) (ops : Array Oper) (draw : Bool) (A : List Value) (H : AH) : Option (List Value × AH) :=
 match draw with
 | true => nQ P G call ops A H
 | false => dk P G call ops ops.toList A H
noncomputable def aX (P : Program) (G : List Nat) (call : bG) : Code → List Value → AH → Option AR
 | .skip, A, H => some (.normal, A, H)
 | .label _, A, H => some (.normal, A, H)
 | .region _ ops draw, A, H => (gm P G call ops draw A H).map fun s => (.normal, s.1, s.2)
 | .seq x y, A, H => (aX P G call x A H).bind fun r => match r.1 with
  | .normal => aX P G call y r.2.1 r.2.2
  | _ => some r
 | .cond c x y, A, H => match fX A c with
  | .bool true => aX P G call x A H
  | .bool false => aX P G call y A H
  | _ => none
 | .block id x, A, H => (aX P G call x A H).map fun r => match r.1 with
  | .exit i => if i = id then (.normal, r.2.1, r.2.2) else r
  | _ => r
 | .loop x, A, H => qP (aX P G call x) A H
 | .exit id, A, H => some (.exit id, A, H)
 | .ret, A, H => some (.ret, A, H)
 | _, _, _ => none
def AE.to : AE → Exit
 | .normal => .normal
 | .exit id => .exit id
 | .ret => .ret
section
variable {P : Program} {w0 : World} {B : Nat} {G : List Nat} {call : bG}
theorem Eg.trans {ρ ρ1 : bN} {H H1 H2 : AH} {w w1 w2 : World} {A2 : List Value} {a2 : Act} (hR : Rel P w0 B ρ H w) (hE : jd ρ H w ρ1 H1 w1) (h : Eg P w0 B G ρ1 H1 w1 A2 H2 a2 w2) : Eg P w0 B G ρ H w A2 H2 a2 w2 := by
 obtain ⟨ρ', h1, h2, h3, h4⟩ := h;exact ⟨ρ', h1, h2, hE.trans hR h3, h4⟩
theorem EN (hcall : mM P G call) (hmono : iB call) (hm : P.follows .mixedOrders = true) : ∀ (c : Code) {Q : Exit → Act → World → Prop} {ρ : bN} {A : List Value} {H : AH} {a : Act} {w : World} {e : AE} {A' : List Value} {H' : AH},
 aX P G call c A H = some (e, A', H') → cu P ρ A a → GlobRel ρ G → Rel P w0 B ρ H w → (∀ a' w', Eg P w0 B G ρ H w A' H' a' w' → Q e.to a' w') → c.wp P Q a w := by
 intro c
 induction c with
 | skip =>
  intro Q ρ A H a w e A' H' h hA hG hR hQ;simp only [aX] at h; cases h;exact wp_skip (hQ a w ⟨ρ, hA, hG, jd.refl _ _ _, hR⟩)
 | label l =>
  intro Q ρ A H a w e A' H' h hA hG hR hQ;simp only [aX] at h; cases h;exact wp_label (hQ a w ⟨ρ, hA, hG, jd.refl _ _ _, hR⟩)
 | exit id =>
  intro Q ρ A H a w e A' H' h hA hG hR hQ;simp only [aX] at h; cases h;exact wp_exit (hQ a w ⟨ρ, hA, hG, jd.refl _ _ _, hR⟩)
 | ret =>
  intro Q ρ A H a w e A' H' h hA hG hR hQ;simp only [aX] at h; cases h;exact wp_ret (hQ a w ⟨ρ, hA, hG, jd.refl _ _ _, hR⟩)
 | region id ops draw =>
  intro Q ρ A H a w e A' H' h hA hG hR hQ;simp only [aX] at h;obtain ⟨⟨A1, H1⟩, hs, e1⟩ := bj.1 h;cases e1
  cases draw with
  | true => exact PJ hcall hmono hm hs hA hG hR hQ
  | false => exact OE hcall hs hA hG hR hQ
 | seq x y ihx ihy =>
  intro Q ρ A H a w e A' H' h hA hG hR hQ;simp only [aX] at h;obtain ⟨⟨e1, A1, H1⟩, hx, h⟩ := aH.1 h;refine wp_seq (ihx hx hA hG hR (fun a1 w1 hp => ?_))
  cases e1 with
  | normal =>
   simp only at h;obtain ⟨ρ1, hA1, hG1, hE1, hR1⟩ := hp;exact ihy h hA1 hG1 hR1 (fun a' w' hp => hQ a' w' (hp.trans hR hE1))
  | exit id => simp only at h; cases h; exact hQ a1 w1 hp
  | ret => simp only at h; cases h; exact hQ a1 w1 hp
 | cond c x y ihx ihy =>
  intro Q ρ A H a w e A' H' h hA hG hR hQ;simp only [aX] at h
  have hc : ∀ t, fX A c = .bool t → a.eval c = .bool t := by
   intro t ht
   cases c with
   | tmp u =>
    simp only [fX] at ht
    cases hx : A[u]? with
    | none => rw [hx] at ht; simp [undef] at ht
    | some x =>
     rw [hx] at ht;simp only [Option.getD_some] at ht;subst ht;obtain ⟨y, hy, hv⟩ := hA.tmps.get hx;rw [Array.getElem?_toList] at hy;simp only [Act.eval, Array.getD_eq_getD_getElem?, hy, Option.getD_some];exact hv.bool_inv
   | const v => exact ht
   | global g => cases ht
   | func f => cases ht
  split at h
  ·rename_i ht; exact wp_cond (hc _ ht) (ihx h hA hG hR hQ)
  ·rename_i ht; exact wp_cond (hc _ ht) (ihy h hA hG hR hQ)
  ·cases h
 | block id x ih =>
  intro Q ρ A H a w e A' H' h hA hG hR hQ;simp only [aX] at h;obtain ⟨⟨e1, A1, H1⟩, hx, e2⟩ := bj.1 h;refine wp_block (ih hx hA hG hR (fun a1 w1 hp => ?_))
  cases e1 with
  | normal => simp only at e2; cases e2; exact hQ a1 w1 hp
  | ret => simp only at e2; cases e2; exact hQ a1 w1 hp
  | exit i =>
   simp only at e2;simp only [AE.to, Exit.inBlock]
   split at e2
   ·rename_i hi; cases e2; rw [if_pos hi]; exact hQ a1 w1 hp
   ·rename_i hi; cases e2; rw [if_neg hi]; exact hQ a1 w1 hp
 | loop x ih =>
  intro Q ρ A H a w e A' H' h hA hG hR hQ;simp only [aX] at h;obtain ⟨n, hn⟩ := dj.1 h;refine wp_loop_rounds n ?_
  clear h
  induction n generalizing ρ A H a w with
  | zero => cases hn
  | succ n ihn =>
   simp only [fC] at hn;obtain ⟨⟨e1, A1, H1⟩, hx, h⟩ := aH.1 hn;rw [rounds_succ];refine ih hx hA hG hR (fun a1 w1 hp => ?_)
   cases e1 with
   | normal =>
    simp only at h;obtain ⟨ρ1, hA1, hG1, hE1, hR1⟩ := hp;exact ihn hA1 hG1 hR1 (fun a' w' hp => hQ a' w' (hp.trans hR hE1)) h
   | exit id => simp only at h; cases h; exact hQ a1 w1 hp
   | ret => simp only at h; cases h; exact hQ a1 w1 hp
 | rangeFunc f ps x y => intro Q ρ A H a w e A' H' h; simp [aX] at h
 | scope x => intro Q ρ A H a w e A' H' h; simp [aX] at h
 | goto l => intro Q ρ A H a w e A' H' h; simp [aX] at h
 | refuse s => intro Q ρ A H a w e A' H' h; simp [aX] at h
theorem tC (hm : iB call) {ops : Array Oper} : ∀ (l : List Oper) {A : List Value} {H : AH} {r : List Value × AH}, dk P G call ops l A H = some r → H.size ≤ r.2.size := by
 intro l
 induction l with
 | nil => intro A H r h; simp only [dk] at h; cases h; exact bv _
 | cons o l ih =>
  intro A H r h;simp only [dk] at h;obtain ⟨s, hs, h⟩ := aH.1 h;refine eA ?_ (ih h);unfold gG at hs
  split at hs
  ·split at hs
   ·obtain ⟨⟨v, H2⟩, hv, e⟩ := bj.1 hs
    cases e; exact M8 hm hv
   ·cases hs; exact bv _
  ·cases hs
theorem El (hm : iB call) : ∀ (c : Code) {A : List Value} {H : AH} {r : AR}, aX P G call c A H = some r → H.size ≤ r.2.2.size := by
 intro c
 induction c with
 | skip => intro A H r h; simp only [aX] at h; cases h; exact bv _
 | label l => intro A H r h; simp only [aX] at h; cases h; exact bv _
 | exit id => intro A H r h; simp only [aX] at h; cases h; exact bv _
 | ret => intro A H r h; simp only [aX] at h; cases h; exact bv _
 | region id ops draw =>
  intro A H r h;simp only [aX] at h;obtain ⟨s, hs, e1⟩ := bj.1 h;cases e1
  cases draw with
  | true => exact tC hm _ (gF hs).2.2
  | false => exact tC hm _ hs
 | seq x y ihx ihy =>
  intro A H r h;simp only [aX] at h;obtain ⟨s, hx, h⟩ := aH.1 h;have h1 := ihx hx
  split at h
  ·exact eA h1 (ihy h)
  ·cases h; exact h1
 | cond c x y ihx ihy =>
  intro A H r h;simp only [aX] at h
  split at h
  ·exact ihx h
  ·exact ihy h
  ·cases h
 | block id x ih =>
  intro A H r h;simp only [aX] at h;obtain ⟨s, hx, e2⟩ := bj.1 h;have h1 := ih hx
  split at e2
  ·split at e2 <;> (subst e2; exact h1)
  ·subst e2; exact h1
 | loop x ih =>
  intro A H r h;simp only [aX] at h;obtain ⟨n, hn⟩ := dj.1 h
  clear h
  induction n generalizing A H with
  | zero => cases hn
  | succ n ihn =>
   simp only [fC] at hn;obtain ⟨s, hx, h⟩ := aH.1 hn;have h1 := ih hx
   split at h
   ·exact eA h1 (ihn h)
   ·cases h; exact h1
 | rangeFunc f ps x y => intro A H r h; simp [aX] at h
 | scope x => intro A H r h; simp [aX] at h
 | goto l => intro A H r h; simp [aX] at h
 | refuse s => intro A H r h; simp [aX] at h
end
def lW (P : Program) (A : List Value) (H : AH) : ResultVar → Option Value
 | .tmp t => some (A[t]?.getD undef)
 | .cell a t => (fU P t).bind fun g => match g with
  | some n => ax n (A[a]?.getD undef) H
  | none => aq (A[a]?.getD undef) H
def uG (P : Program) (A : List Value) (H : AH) : List ResultVar → Option (List Value)
 | [] => some []
 | r :: rs => (lW P A H r).bind fun v => (uG P A H rs).bind fun vs => some (v :: vs)
def jg (P : Program) (A : List Value) (H : AH) (rs : List ResultVar) : Option Value := (uG P A H rs).map fun vs => match vs with
 | [v] => v
 | vs => .tuple vs.toArray
def abF (P : Program) (rs : List ResultVar) (r : AR) : Option (Value × AH) :=
 match r.1 with
 | .exit _ => none
 | _ => (jg P r.2.1 r.2.2 rs).map (·, r.2.2)
noncomputable def qO (P : Program) (G : List Nat) (call : bG) (n : Nat) (rs : List ResultVar) (c : Code) (args : List Value) (H : AH) : Option (Value × AH) :=
 (aX P G call c (args ++ List.replicate (n - args.length) undef) H).bind (abF P rs)
structure DSh where
 c1 : Code
 id2 : Nat
 ops2 : Array Oper
 om : Oper
 df : Oper
 t : Nat
 k : Nat
 id3 : Nat
 ops3 : Array Oper
def lC : Code → Option DSh
 | .seq c1 (.seq (.region id2 ops2 false) (.seq (.region id3 ops3 false) .ret)) => match ops2.toList with
  | [mk, df] => match mk.dst, mk.op, mk.guard, df.dst, df.op, df.guard with
   | some t, .makeFunc (.func k) first _, none, none, .defer ⟨.value (.tmp t'), args, _⟩, none => if t = t' ∧ first = #[] ∧ args = #[] then some ⟨c1, id2, ops2, mk, df, t, k, id3, ops3⟩ else none
   | _, _, _, _, _, _ => none
  | _ => none
 | _ => none
theorem Nw {c : Code} {s : DSh} (h : lC c = some s) : c = .seq s.c1 (.seq (.region s.id2 s.ops2 false) (.seq (.region s.id3 s.ops3 false) .ret)) ∧ s.ops2.toList = [s.om, s.df] ∧ s.om.dst = some s.t ∧
 (∃ cap, s.om.op = .makeFunc (.func s.k) #[] cap) ∧ s.om.guard = none ∧ s.df.dst = none ∧ (∃ ats, s.df.op = .defer ⟨.value (.tmp s.t), #[], ats⟩) ∧ s.df.guard = none := by
 unfold lC at h
 split at h
 ·split at h
  ·rename_i hl
   split at h
   ·rename_i h1 h2 h3 h4 h5 h6
    split at h
    ·rename_i hc
     obtain ⟨rfl, rfl, rfl⟩ := hc;cases h;exact ⟨rfl, hl, h1, ⟨_, h2⟩, h3, h4, ⟨_, h5⟩, h6⟩
    ·cases h
   ·cases h
  ·cases h
 ·cases h
def wP (P : Program) (k : Nat) : Prop :=
 (∃ fn, P.funcs[k]? = some fn ∧ fn.body.isSome = true ∧ fn.name ≠ "runtime.NumGoroutine") ∧
 ∀ (args : Array Value) (w : World), CallsD P k args .returning w fun e u' w' => (∃ v, e = .returned v) ∧ u' = .returning ∧ w' = w
noncomputable def p7 (P : Program) (G : List Nat) (call : bG) (n : Nat) (rs : List ResultVar) (s : DSh) (args : List Value) (H : AH) : Option (Value × AH) :=
 (aX P G call s.c1 (args ++ List.replicate (n - args.length) undef) H).bind fun r => match r.1 with
  | .normal => if r.2.1.length ≤ s.t then none else (gG P G call s.ops2 s.om r.2.1 r.2.2).bind fun q => (dk P G call s.ops3 s.ops3.toList q.1 q.2).bind fun z => (jg P z.1 z.2 rs).map (·, z.2)
  | _ => none
noncomputable def fT (P : Program) (G : List Nat) : Nat → bG
 | 0 => fun _ _ _ => none
 | d + 1 => fun f args H => match P.funcs[f]? with
  | some fn => if fn.name = "runtime.NumGoroutine" then none else match fn.body with
   | some c => match lC c with
    | none => qO P G (fT P G d) fn.ntmps fn.results.toList c args H
    | some s => Nr (wP P s.k) (p7 P G (fT P G d) fn.ntmps fn.results.toList s args H)
   | none => none
  | none => none
section
variable {P : Program} {w0 : World} {B : Nat} {ρ : bN} {H : AH} {w : World} {G : List Nat} {call : bG}
theorem Sa {A : List Value} {a : Act} (hA : cu P ρ A a) (hR : Rel P w0 B ρ H w) {r : ResultVar} {v : Value} (h : lW P A H r = some v) :
 ∃ v', (match r with | .tmp t => pure (a.tmps.getD t undef) | .cell x t => do loadVar t (← asAddr (a.tmps.getD x undef)) : Sem Value).run P w = .ok v' w ∧ VRel P ρ v v' := by
 have slot : ∀ t, VRel P ρ (A[t]?.getD undef) (a.tmps.getD t undef) := fun t => zX (G := []) hA (fun g hg => by simp at hg) (x := .tmp t) rfl
 cases r with
 | tmp t => simp only [lW] at h; cases h; exact ⟨_, rfl, slot t⟩
 | cell x t =>
  simp only [lW] at h;obtain ⟨g, hg, h⟩ := aH.1 h
  cases g with
  | none =>
   obtain ⟨a', y', ha, hr, hv⟩ := agP hR h (slot x);refine ⟨y', ?_, hv⟩;simp only [ha];simp [asAddr, loadVar, p8 hg]
   simpa using hr
  | some n =>
   obtain ⟨a', ys, ha, hr, hv⟩ := N7 hR h (slot x);obtain ⟨hag, hsz⟩ := p9 hg w;refine ⟨.agg ys, ?_, hv⟩;simp only [ha];simp [asAddr, loadVar, hag, dc hsz, hr]
theorem agU {A : List Value} {a : Act} (hA : cu P ρ A a) (hR : Rel P w0 B ρ H w) : ∀ {rs : List ResultVar} {vs : List Value}, uG P A H rs = some vs →
 ∃ vs', (rs.mapM (fun r => (match r with | .tmp t => pure (a.tmps.getD t undef) | .cell x t => do loadVar t (← asAddr (a.tmps.getD x undef)) : Sem Value))).run P w = .ok vs' w ∧ LRel P ρ vs vs' := by
 intro rs
 induction rs with
 | nil => intro vs h; simp only [uG] at h; cases h; exact ⟨[], rfl, LRel.nil⟩
 | cons r rs ih =>
  intro vs h;simp only [uG] at h;obtain ⟨v, hv, h⟩ := aH.1 h;obtain ⟨vs0, hvs, h⟩ := aH.1 h;cases h;obtain ⟨v', hr, hv'⟩ := Sa hA hR hv;obtain ⟨vs', hrs, hvs'⟩ := ih hvs;refine ⟨v' :: vs', ?_, hvs'.cons hv'⟩;rw [List.mapM_cons];simp only [Sem.run_bind, hr, Result.andThen_ok, hrs, Sem.run_pure]
theorem BW {A : List Value} {a : Act} (hA : cu P ρ A a) (hR : Rel P w0 B ρ H w) {fn : Func} {v : Value} (h : jg P A H fn.results.toList = some v) :
 ∃ v', (results fn a.tmps).run P w = .ok v' w ∧ VRel P ρ v v' := by
 unfold jg at h;obtain ⟨vs, hvs, e⟩ := bj.1 h;obtain ⟨vs', hrun, hl⟩ := agU hA hR hvs
 have hm : ∀ g : ResultVar → Sem Value, (fn.results.mapM g).run P w = ((fn.results.toList.mapM g >>= fun l => pure l.toArray : Sem (Array Value))).run P w := by
  intro g;rw [Array.mapM_eq_mapM_toList]
  rfl
 have h2 : (results fn a.tmps).run P w = .ok (if h : vs'.toArray.size = 1 then vs'.toArray[0] else .tuple vs'.toArray) w := by
  unfold results;rw [Sem.run_bind, hm, Sem.run_bind]
  erw [hrun]
  rfl
 refine ⟨_, h2, ?_⟩;have hlen := hl.1
 split at e
 ·rename_i x
  subst e
  match vs', hlen, hl with
  | [y], _, hl => simpa using hl.2 0 _ _ rfl rfl
 ·rename_i hne
  subst e
  have : ¬ vs'.toArray.size = 1 := by
   intro h1
   match vs, hlen, hne with
   | [x], _, hne => exact hne x rfl
   | [], hlen, _ => simp at hlen h1; omega
   | x :: y :: zs, hlen, _ => simp at hlen h1; omega
  rw [dif_neg this];exact .tuple (by simp [hlen]) (fun i x y hx hy => hl.2 i x y (by simpa using hx) (by simpa using hy))
theorem Rk (hcall : mM P G call) {ops : Array Oper} (ds : List Deferred) {Q : Exit → Act → World → Prop} : ∀ (l : List Oper) {ρ : bN} {A : List Value} {H : AH} {a : Act} {w : World} {A' : List Value} {H' : AH}, dk P G call ops l A H = some (A', H') →
 cu P ρ A a → GlobRel ρ G → Rel P w0 B ρ H w → (∀ a' w', Eg P w0 B G ρ H w A' H' a' w' → Q .normal { a' with defers := ds } w') → wpList P ops Q l { a with defers := ds } w := by
 intro l
 induction l with
 | nil =>
  intro ρ A H a w A' H' h hA hG hR hQ;simp only [dk] at h;cases h;exact hQ a w ⟨ρ, hA, hG, jd.refl _ _ _, hR⟩
 | cons o rest ih =>
  intro ρ A H a w A' H' h hA hG hR hQ;simp only [dk] at h;obtain ⟨⟨A1, H1⟩, hs, h⟩ := aH.1 h;simp only at h;unfold gG at hs
  split at hs
  ·rename_i hok
   unfold wpList;have hwr := wI hA ops o;rw [show Region.wanted o (yielded ops ({ a with defers := ds } : Act).tmps) = Region.wanted o (dO ops A) from hwr]
   split at hs
   ·rename_i hw
    rw [if_pos hw];obtain ⟨⟨v, H2⟩, ho, e⟩ := bj.1 hs;cases e;have hr := yu hcall hA hG hR hok ho;refine .inl (fB.wp (a := { a with defers := ds }) (fB.congr hr rfl) (fun v' w' hv => ?_));obtain ⟨ρ', hv, hE, hR'⟩ := hv;have := ih (a := a.put o.dst v') h (kM (hA.mono hE.le) o.dst hv) (hG.mono hE.le) hR' (fun a' w'' hp => hQ a' w'' (hp.trans hR hE))
    have e : ({ a.put o.dst v' with defers := ds } : Act) = ({ a with defers := ds } : Act).put o.dst v' := by cases o.dst <;> rfl
    rw [e] at this;exact this
   ·rename_i hw
    rw [if_neg hw];cases hs;have := ih (a := a.put o.dst undef) h (kM hA o.dst VRel.undef) hG hR hQ
    have e : ({ a.put o.dst undef with defers := ds } : Act) = ({ a with defers := ds } : Act).put o.dst undef := by cases o.dst <;> rfl
    rw [e] at this;exact this
  ·cases hs
theorem Nv (hcall : mM P G call) (hmono : iB call) (hm : P.follows .mixedOrders = true) {f : Nat} {fn : Func} {c : Code} {s : DSh} (hf : P.funcs[f]? = some fn) (hb : fn.body = some c) (hd : lC c = some s)
 {args : List Value} {args' : Array Value} {v : Value} {H' : AH} (h : Nr (wP P s.k) (p7 P G call fn.ntmps fn.results.toList s args H) = some (v, H'))
 (hA : cu P ρ (args ++ List.replicate (fn.ntmps - args.length) undef) { tmps := args' ++ Array.replicate (fn.ntmps - args'.size) undef, defers := [] }) (hG : GlobRel ρ G) (hR : Rel P w0 B ρ H w) :
 Calls P f args' w fun e w' => ∃ v' ρ', e = .returned v' ∧ VRel P ρ' v v' ∧ jd ρ H w ρ' H' w' ∧ Rel P w0 B ρ' H' w' := by
 obtain ⟨⟨⟨fk, hfk, hbk, hnk⟩, hcd⟩, h⟩ := o8 h;obtain ⟨hc, hl2, hdst, ⟨cap, hop⟩, hg, hdd, ⟨ats, hdo⟩, hdg⟩ := Nw hd;unfold p7 at h;obtain ⟨⟨e1, A1, H1⟩, h1, h⟩ := aH.1 h
 cases e1 with
 | exit i => cases h
 | ret => cases h
 | normal =>
  simp only at h
  split at h
  ·cases h
  rename_i hlt
  obtain ⟨⟨A2, H2⟩, h2, h⟩ := aH.1 h;obtain ⟨⟨A3, H3⟩, h3, h⟩ := aH.1 h;obtain ⟨x, hx, e⟩ := bj.1 h;cases e;refine calls_of_wp_defers hf hb ?_;rw [hc];refine wp_seq (EN hcall hmono hm s.c1 h1 hA hG hR (fun a1 w1 hp => ?_));obtain ⟨ρ1, hA1, hG1, hE1, hR1⟩ := hp;refine wp_seq (wp_region_list ?_);rw [hl2];have hd1 : a1.defers = [] := hA1.defers;unfold gG at h2
  split at h2
  ·rename_i hok
   have hwt : Region.wanted s.om (dO s.ops2 A1) = true := by simp [Region.wanted, hg]
   rw [if_pos hwt] at h2;obtain ⟨⟨y, H2'⟩, ho, e⟩ := bj.1 h2;cases e;refine wpList_plain hg (fun K hK => fB.wp (yu hcall hA1 hG1 hR1 hok ho) (fun v' w2 hv => hK _ _ ?_));obtain ⟨ρ2, hv, hE2, hR2⟩ := hv
   have hy : y = .func (.func s.k) #[] (cap.map (fX A1)) := by
    unfold fe at ho;rw [hop] at ho;simp at ho;exact ho.1.symm
   rw [hy] at hv;obtain ⟨f', c', rfl, hf', _⟩ := hv.func_inv
   have hf0 : f' = #[] := by
    have := hf'.1;simp at this;exact Array.eq_empty_of_size_eq_zero (by simpa using this.symm)
   subst hf0;refine wpList_plain hdg (fun K' hK' => ?_)
   have ht : (a1.put s.om.dst (.func (.func s.k) #[] c')).eval (.tmp s.t) = .func (.func s.k) #[] c' := by
    have hsz : s.t < a1.tmps.size := by have := hA1.tmps.1; simp at this; omega
    rw [hdst];simp [Act.put, Act.eval, hsz, Array.getD]
   have hrun : (execOp (a1.put s.om.dst (.func (.func s.k) #[] c')).eval s.df).run P w2 = .ok (.defer { target := .fn (.func s.k) c', args := #[] }) w2 := by
    simp [execOp, hdo, resolve, ht, Deferred.ofValue]
   unfold Oper.wp;rw [hrun, Oper.upon_defer];refine hK' _ _ (wpList_nil ?_);rw [hdd];have hA2 := kM (hA1.mono hE2.le) s.om.dst hv
   have hpd : ∀ (a : Act) (d : Option Tmp) (x : Value), (a.put d x).defers = a.defers := by intro a d x; cases d <;> rfl
   have e : ({ a1.put s.om.dst (.func (.func s.k) #[] c') with defers := { target := .fn (.func s.k) c', args := #[] } :: (a1.put s.om.dst (.func (.func s.k) #[] c')).defers } : Act).put none undef
    = { a1.put s.om.dst (.func (.func s.k) #[] c') with defers := [{ target := .fn (.func s.k) c', args := #[] }] } := by
    rw [hpd, hd1]; rfl
   rw [e];show (Code.seq (.region s.id3 s.ops3 false) .ret).wp P _ _ _;rw [hy] at h3;refine wp_seq (wp_region_list (Rk hcall _ _ h3 hA2 (hG1.mono hE2.le) hR2 (fun a3 w3 hp => ?_)));obtain ⟨ρ3, hA3, hG3, hE3, hR3⟩ := hp;refine wp_ret ?_;obtain ⟨v3, hr3, hv3⟩ := BW hA3 hR3 hx
   have hbn : ¬ (fk.body = none) := by intro hb; rw [hb] at hbk; cases hbk
   refine leaves_cons (f := s.k) (args := c') (by simp) (by simp [invoke, callFunc, hfk, hnk, hbn]) (CallsD.mono (hcd _ _) ?_)
   rintro e' u' w' ⟨⟨v0, rfl⟩, rfl, rfl⟩
   exact ⟨v3, hr3, v3, ρ3, rfl, hv3, hE1.trans hR (hE2.trans hR1 hE3), hR3⟩
  ·cases h2
theorem M7 (hm : iB call) {n : Nat} {rs : List ResultVar} {s : DSh} {args : List Value} {v : Value} {H' : AH} (h : p7 P G call n rs s args H = some (v, H')) : H.size ≤ H'.size := by
 unfold p7 at h;obtain ⟨⟨e1, A1, H1⟩, h1, h⟩ := aH.1 h
 cases e1 with
 | exit i => cases h
 | ret => cases h
 | normal =>
  simp only at h
  split at h
  ·cases h
  obtain ⟨⟨A2, H2⟩, h2, h⟩ := aH.1 h;obtain ⟨⟨A3, H3⟩, h3, h⟩ := aH.1 h;obtain ⟨x, hx, e⟩ := bj.1 h;cases e;have g1 := El hm _ h1;have g2 : H1.size ≤ H2.size := tC (P := P) (G := G) (call := call) hm [s.om] (ops := s.ops2) (A := A1) (H := H1) (r := (A2, H2)) (by simp [dk, h2]);have g3 := tC hm _ h3;simp only at g1 g3;exact eA g1 (eA g2 g3)
theorem EL (hm : P.follows .mixedOrders = true) : ∀ d, mM P G (fT P G d) ∧ iB (fT P G d) := by
 intro d
 induction d with
 | zero => exact ⟨fun f args H v H' h => (by cases h), fun f args H v H' h => (by cases h)⟩
 | succ d ih =>
  constructor
  ·intro f args H v H' h
   simp only [fT] at h
   cases hf : P.funcs[f]? with
   | none => rw [hf] at h; cases h
   | some fn =>
    rw [hf] at h;simp only at h
    split at h
    ·cases h
    ·rename_i hname
     cases hb : fn.body with
     | none => rw [hb] at h; cases h
     | some c =>
      rw [hb] at h;simp only at h;refine ⟨⟨fn, rfl, by rw [hb]; rfl, hname⟩, fun w0 B ρ w args' hR hG hargs => ?_⟩
      have hA : cu P ρ (args ++ List.replicate (fn.ntmps - args.length) undef) { tmps := args'.toArray ++ Array.replicate (fn.ntmps - args'.toArray.size) undef, defers := [] } := by
       refine ⟨?_, rfl⟩;simp only [Array.toList_append, Array.toList_replicate, List.size_toArray];rw [hargs.1];refine hargs.append ⟨rfl, fun i x y hx hy => ?_⟩;rw [hx] at hy;cases hy;rw [List.getElem?_replicate] at hx
       split at hx
       ·cases hx; exact VRel.undef
       ·cases hx
      cases hd : lC c with
      | some s => rw [hd] at h; exact Nv ih.1 ih.2 hm hf hb hd h hA hG hR
      | none =>
      rw [hd] at h;simp only [qO] at h;obtain ⟨⟨e, A', H2⟩, hc, h⟩ := aH.1 h;refine calls_of_wp hf hb ?_;refine EN ih.1 ih.2 hm c hc hA hG hR (fun a' w' hp => ?_);obtain ⟨ρ', hA', hG', hE, hR'⟩ := hp
      have fin : ∀ {x : Value} {H3 : AH}, (jg P A' H2 fn.results.toList).map (·, H2) = some (x, H3) → a'.defers = [] ∧ ∃ v', (results fn a'.tmps).run P w' = .ok v' w' ∧ ∃ v'' ρ'', Ending.returned v' = .returned v'' ∧ VRel P ρ'' x v'' ∧ jd ρ H w ρ'' H3 w' ∧ Rel P w0 B ρ'' H3 w' := by
       intro x H3 hx;obtain ⟨y, hy, e⟩ := bj.1 hx;cases e;obtain ⟨v', hr, hv⟩ := BW hA' hR' hy;exact ⟨hA'.defers, v', hr, v', ρ', rfl, hv, hE, hR'⟩
      cases e with
      | normal => exact fin h
      | ret => exact fin h
      | exit i => cases h
  ·intro f args H v H' h
   simp only [fT] at h
   cases hf : P.funcs[f]? with
   | none => rw [hf] at h; cases h
   | some fn =>
    rw [hf] at h;simp only at h
    split at h
    ·cases h
    ·cases hb : fn.body with
     | none => rw [hb] at h; cases h
     | some c =>
      rw [hb] at h;simp only [qO] at h
      cases hd : lC c with
      | some s =>
       rw [hd] at h;obtain ⟨_, h⟩ := o8 h;exact M7 ih.2 h
      | none =>
      rw [hd] at h;simp only at h;obtain ⟨⟨e, A', H2⟩, hc, h⟩ := aH.1 h;have h1 := El ih.2 c hc;unfold abF at h
      split at h
      ·cases h
      ·obtain ⟨y, hy, e⟩ := bj.1 h
       cases e; exact h1
end
def CLe (c1 c2 : bG) : Prop := ∀ f args H r, c1 f args H = some r → c2 f args H = some r
section
variable {P : Program} {G : List Nat} {c1 c2 : bG}
theorem ao4 (h : CLe c1 c2) {ev : Operand → Value} {o : Oper} {H : AH} {r : Value × AH} (hr : fe P c1 ev o H = some r) : fe P c2 ev o H = some r := by
 obtain ⟨dst, op, type, pos, after, guard⟩ := o
 cases op with
 | call c =>
  obtain ⟨callee, args, ats⟩ := c
  cases callee with
  | value f =>
   simp only [fe] at hr ⊢;obtain ⟨x, hx, hr⟩ := aH.1 hr;rw [hx];exact h _ _ _ _ hr
  | invoke r m => exact hr
  | builtin b => exact hr
 | makeMap t r => cases r <;> exact hr
 | slice t x lo hi mx => cases lo <;> cases hi <;> cases mx <;> exact hr
 | _ => exact hr
theorem Er (h : CLe c1 c2) {ops : Array Oper} {o : Oper} {A : List Value} {H : AH} {r : List Value × AH} (hr : gG P G c1 ops o A H = some r) : gG P G c2 ops o A H = some r := by
 unfold gG at hr ⊢
 split at hr
 ·rename_i hok
  rw [if_pos hok]
  split at hr
  ·rename_i hw
   rw [if_pos hw];obtain ⟨x, hx, e⟩ := bj.1 hr;rw [ao4 h hx];exact congrArg some e
  ·rename_i hw
   rw [if_neg hw];exact hr
 ·cases hr
theorem tB (h : CLe c1 c2) {ops : Array Oper} : ∀ (l : List Oper) {A : List Value} {H : AH} {r : List Value × AH}, dk P G c1 ops l A H = some r → dk P G c2 ops l A H = some r := by
 intro l
 induction l with
 | nil => intro A H r hr; exact hr
 | cons o l ih =>
  intro A H r hr;simp only [dk] at hr ⊢;obtain ⟨s, hs, hr⟩ := aH.1 hr;rw [Er h hs];exact ih hr
theorem aiX (h : CLe c1 c2) {ops : Array Oper} {A : List Value} {H : AH} {r : List Value × AH} (hr : dk P G c1 ops ops.toList A H = some r) : jY P G c2 ops A H = jY P G c1 ops A H := by
 funext i
 have h1 := tB h _ (zC hr i);unfold jY at h1 ⊢;rw [h1]; rfl
theorem abE (h : CLe c1 c2) {ops : Array Oper} {A : List Value} {H : AH} {r : List Value × AH} (hr : nQ P G c1 ops A H = some r) : nQ P G c2 ops A H = some r := by
 obtain ⟨h1, h2, h3⟩ := gF hr;unfold nQ;rw [h1];simp only
 cases h4 : dY ops.toList with
 | nil => exact tB h _ h3
 | cons p ps =>
  simp only;rw [kU ?_]
  ·exact tB h _ h3
  ·rw [aiX h h3, ← h4]; exact h2
theorem o6 (h : CLe c1 c2) : ∀ (c : Code) {A : List Value} {H : AH} {r : AR}, aX P G c1 c A H = some r → aX P G c2 c A H = some r := by
 intro c
 induction c with
 | region id ops draw =>
  intro A H r hr;simp only [aX] at hr ⊢;obtain ⟨s, hs, e1⟩ := bj.1 hr
  have : gm P G c2 ops draw A H = some s := by
   cases draw with
   | true => exact abE h hs
   | false => exact tB h _ hs
  rw [this]; exact congrArg some e1
 | seq x y ihx ihy =>
  intro A H r hr;simp only [aX] at hr ⊢;obtain ⟨s, hx, hr⟩ := aH.1 hr;rw [ihx hx];simp only [bJ]
  split at hr
  ·exact ihy hr
  ·exact hr
 | cond c x y ihx ihy =>
  intro A H r hr;simp only [aX] at hr ⊢
  split at hr
  ·exact ihx hr
  ·exact ihy hr
  ·cases hr
 | block id x ih =>
  intro A H r hr;simp only [aX] at hr ⊢;obtain ⟨s, hx, e2⟩ := bj.1 hr;rw [ih hx]; exact congrArg some e2
 | loop x ih =>
  intro A H r hr;simp only [aX] at hr ⊢;obtain ⟨n, hn⟩ := dj.1 hr;refine dj.2 ⟨n, ?_⟩
  clear hr
  induction n generalizing A H with
  | zero => cases hn
  | succ n ihn =>
   simp only [fC] at hn ⊢;obtain ⟨s, hx, hr⟩ := aH.1 hn;rw [ih hx];simp only [bJ]
   split at hr
   ·exact ihn hr
   ·exact hr
 | _ => intro A H r hr; exact hr
theorem abD (h : CLe c1 c2) {n : Nat} {rs : List ResultVar} {c : Code} {args : List Value} {H : AH} {r : Value × AH} (hr : qO P G c1 n rs c args H = some r) : qO P G c2 n rs c args H = some r := by
 unfold qO at hr ⊢;obtain ⟨s, hs, hr⟩ := aH.1 hr;rw [o6 h _ hs];exact hr
theorem Wz (h : CLe c1 c2) {n : Nat} {rs : List ResultVar} {s : DSh} {args : List Value} {H : AH} {r : Value × AH} (hr : p7 P G c1 n rs s args H = some r) : p7 P G c2 n rs s args H = some r := by
 unfold p7 at hr ⊢;obtain ⟨⟨e1, A1, H1⟩, h1, hr⟩ := aH.1 hr;rw [o6 h _ h1];simp only [bJ]
 cases e1 with
 | exit i => exact hr
 | ret => exact hr
 | normal =>
  simp only at hr ⊢
  split at hr
  ·cases hr
  rename_i hlt
  rw [if_neg hlt];obtain ⟨q, h2, hr⟩ := aH.1 hr;obtain ⟨z, h3, hr⟩ := aH.1 hr;rw [Er h h2];simp only [bJ];rw [tB h _ h3];exact hr
theorem Ps : ∀ d, CLe (fT P G d) (fT P G (d + 1)) := by
 intro d
 induction d with
 | zero => intro f args H r h; cases h
 | succ d ih =>
  intro f args H r h;rw [fT] at h ⊢;simp only [] at h ⊢
  cases hf : P.funcs[f]? with
  | none => rw [hf] at h; cases h
  | some fn =>
   rw [hf] at h;simp only at h ⊢
   split at h
   ·cases h
   ·rename_i hn
    rw [if_neg hn]
    cases hb : fn.body with
    | none => rw [hb] at h; cases h
    | some c =>
     rw [hb] at h;simp only at h ⊢
     cases hd : lC c with
     | none => rw [hd] at h; exact abD ih h
     | some s =>
      rw [hd] at h;obtain ⟨h1, h2⟩ := o8 h;simp only;rw [kU h1];exact Wz ih h2
theorem kS {d e : Nat} (h : d ≤ e) : CLe (fT P G d) (fT P G e) := by
 induction e with
 | zero => rw [show d = 0 from by omega]; exact fun _ _ _ _ h => h
 | succ e ih =>
  by_cases hd : d = e + 1
  ·rw [hd]; exact fun _ _ _ _ h => h
  ·exact fun f args H r hr => Ps e f args H r (ih (by omega) f args H r hr)
open Classical in
noncomputable def aF (P : Program) (G : List Nat) : bG := fun f args H => if h : ∃ d r, fT P G d f args H = some r then some h.choose_spec.choose else none
theorem Em {f : Nat} {args : List Value} {H : AH} {r : Value × AH} : aF P G f args H = some r ↔ ∃ d, fT P G d f args H = some r := by
 unfold aF
 constructor
 ·intro h
  split at h
  ·rename_i hx
   cases h;exact ⟨_, hx.choose_spec.choose_spec⟩
  ·cases h
 ·rintro ⟨n, hn⟩
  have hx : ∃ d r, fT P G d f args H = some r := ⟨n, r, hn⟩;rw [dif_pos hx];have h1 := kS (Nat.le_max_right n hx.choose) _ _ _ _ hx.choose_spec.choose_spec;have h2 := kS (Nat.le_max_left n hx.choose) _ _ _ _ hn;rw [h2] at h1;exact h1.symm
theorem arB (hm : P.follows .mixedOrders = true) : mM P G (aF P G) ∧ iB (aF P G) := by
 constructor
 ·intro f args H v H' h
  obtain ⟨d, hd⟩ := Em.1 h;exact (EL hm d).1 f args H v H' hd
 ·intro f args H v H' h
  obtain ⟨d, hd⟩ := Em.1 h;exact (EL hm d).2 f args H v H' hd
theorem akL {ev : Operand → Value} {o : Oper} {H : AH} {r : Value × AH} (h : fe P (aF P G) ev o H = some r) : ∃ d, fe P (fT P G d) ev o H = some r := by
 obtain ⟨dst, op, type, pos, after, guard⟩ := o
 cases op with
 | call c =>
  obtain ⟨callee, args, ats⟩ := c
  cases callee with
  | value f =>
   simp only [fe] at h ⊢;obtain ⟨x, hx, h⟩ := aH.1 h;obtain ⟨d, hd⟩ := Em.1 h;exact ⟨d, by rw [hx]; exact hd⟩
  | invoke r m => exact ⟨0, h⟩
  | builtin b => exact ⟨0, h⟩
 | makeMap t r => cases r <;> exact ⟨0, h⟩
 | slice t x lo hi mx => cases lo <;> cases hi <;> cases mx <;> exact ⟨0, h⟩
 | _ => exact ⟨0, h⟩
theorem M9 {ops : Array Oper} : ∀ (l : List Oper) {A : List Value} {H : AH} {r : List Value × AH}, dk P G (aF P G) ops l A H = some r → ∃ d, dk P G (fT P G d) ops l A H = some r := by
 intro l
 induction l with
 | nil => intro A H r hr; exact ⟨0, hr⟩
 | cons o l ih =>
  intro A H r hr;simp only [dk] at hr ⊢;obtain ⟨s, hs, hr⟩ := aH.1 hr;obtain ⟨d2, h2⟩ := ih hr
  have h1 : ∃ d, gG P G (fT P G d) ops o A H = some s := by
   unfold gG at hs ⊢
   split at hs
   ·rename_i hok
    split at hs
    ·rename_i hw
     obtain ⟨x, hx, e⟩ := bj.1 hs;obtain ⟨d, hd⟩ := akL hx;exact ⟨d, by rw [if_pos hok, if_pos hw, hd]; exact congrArg some e⟩
    ·rename_i hw
     exact ⟨0, by rw [if_pos hok, if_neg hw]; exact hs⟩
   ·cases hs
  obtain ⟨d1, h1⟩ := h1;refine ⟨max d1 d2, ?_⟩;rw [Er (kS (Nat.le_max_left ..)) h1];exact tB (kS (Nat.le_max_right ..)) _ h2
theorem SK (d : Nat) : CLe (fT P G d) (aF P G) := fun _ _ _ _ h => Em.2 ⟨d, h⟩
theorem Na {ops : Array Oper} {draw : Bool} {A : List Value} {H : AH} {r : List Value × AH} (h : gm P G (aF P G) ops draw A H = some r) : ∃ d, gm P G (fT P G d) ops draw A H = some r := by
 cases draw with
 | false => exact M9 _ h
 | true =>
  simp only [gm] at h ⊢;obtain ⟨h1, h2, h3⟩ := gF h;obtain ⟨d, hd⟩ := M9 _ h3;refine ⟨d, ?_⟩;unfold nQ;rw [h1];simp only
  cases h4 : dY ops.toList with
  | nil => exact hd
  | cons p ps =>
   simp only;rw [kU ?_]
   ·exact hd
   ·rw [← aiX (SK d) hd, ← h4]; exact h2
theorem Wy : ∀ (c : Code) {A : List Value} {H : AH} {r : AR}, aX P G (aF P G) c A H = some r → ∃ d, aX P G (fT P G d) c A H = some r := by
 intro c
 induction c with
 | region id ops draw =>
  intro A H r hr;simp only [aX] at hr ⊢;obtain ⟨s, hs, e1⟩ := bj.1 hr;obtain ⟨d, hd⟩ := Na hs;exact ⟨d, by rw [hd]; exact congrArg some e1⟩
 | seq x y ihx ihy =>
  intro A H r hr;simp only [aX] at hr ⊢;obtain ⟨s, hx, hr⟩ := aH.1 hr;obtain ⟨d1, h1⟩ := ihx hx
  split at hr
  ·rename_i e
   obtain ⟨d2, h2⟩ := ihy hr;refine ⟨max d1 d2, ?_⟩;rw [o6 (kS (Nat.le_max_left ..)) _ h1];simp only [bJ, e];exact o6 (kS (Nat.le_max_right ..)) _ h2
  ·refine ⟨d1, ?_⟩
   rw [h1];simp only [bJ];exact hr
 | cond c x y ihx ihy =>
  intro A H r hr;simp only [aX] at hr ⊢
  split at hr
  ·exact ihx hr
  ·exact ihy hr
  ·cases hr
 | block id x ih =>
  intro A H r hr;simp only [aX] at hr ⊢;obtain ⟨s, hx, e2⟩ := bj.1 hr;obtain ⟨d, hd⟩ := ih hx;exact ⟨d, by rw [hd]; exact congrArg some e2⟩
 | loop x ih =>
  intro A H r hr;simp only [aX] at hr ⊢;obtain ⟨n, hn⟩ := dj.1 hr
  have key : ∃ d, fC (aX P G (fT P G d) x) n A H = some r := by
   clear hr
   induction n generalizing A H with
   | zero => cases hn
   | succ n ihn =>
    simp only [fC] at hn ⊢;obtain ⟨s, hx, hr⟩ := aH.1 hn;obtain ⟨d1, h1⟩ := ih hx
    split at hr
    ·rename_i e
     obtain ⟨d2, h2⟩ := ihn hr;refine ⟨max d1 d2, ?_⟩;rw [o6 (kS (Nat.le_max_left ..)) _ h1];simp only [bJ, e]
     have key2 : ∀ (n : Nat) {A : List Value} {H : AH} {r : AR}, fC (aX P G (fT P G d2) x) n A H = some r → fC (aX P G (fT P G (max d1 d2)) x) n A H = some r := by
      intro n
      induction n with
      | zero => intro A H r h; cases h
      | succ n ih2 =>
       intro A H r h;simp only [fC] at h ⊢;obtain ⟨s, hx, hr⟩ := aH.1 h;rw [o6 (kS (Nat.le_max_right d1 d2)) _ hx];simp only [bJ]
       split at hr
       ·exact ih2 hr
       ·exact hr
     exact key2 n h2
    ·refine ⟨d1, ?_⟩
     rw [h1];simp only [bJ];exact hr
  obtain ⟨d, hd⟩ := key;exact ⟨d, dj.2 ⟨n, hd⟩⟩
 | _ => intro A H r hr; exact ⟨0, hr⟩
theorem arA {f : Nat} {fn : Func} {c : Code} (hf : P.funcs[f]? = some fn) (hb : fn.body = some c) (hn : fn.name ≠ "runtime.NumGoroutine") (hds : lC c = none) {args : List Value} {H : AH} {r : Value × AH}
 (h : qO P G (aF P G) fn.ntmps fn.results.toList c args H = some r) : aF P G f args H = some r := by
 unfold qO at h;obtain ⟨s, hs, h⟩ := aH.1 h;obtain ⟨d, hd⟩ := Wy _ hs;refine Em.2 ⟨d + 1, ?_⟩;simp only [fT, hf, hb, if_neg hn, hds, qO, hd, bJ];exact h
end
section
variable {R : Type}
abbrev tb {α β : Type} (x : Option α) (f : α → Option β) : Option β :=
 match x with
 | some a => f a
 | none => none
theorem OY {α β : Type} (x : Option α) (f : α → Option β) : tb x f = x.bind f := by cases x <;> rfl
abbrev gT (P : Program) (b : Builtin) (argTypes : Array TypeId) (args : List Value) (H : AH) (k : Value → AH → Option R) : Option R :=
 match b, args with
 | .len, [x] => match (argTypes[0]?).bind fun t => P.underlying t with
  | some (.slice _) => match x with | .slice _ n _ => k (.int .i64 n) H | _ => none
  | some .string => match x with | .string s => k (.int .i64 s.size) H | _ => none
  | some (.map _ _) => (ot x H).bind fun v => k v H
  | _ => none
 | .max, args => (gk args).bind fun v => k v H
 | .min, args => (jS args).bind fun v => k v H
 | .append, [s, x] => (argTypes[0]?).bind fun t => (cJ P t).bind fun el => (cR P el).bind fun e => (f9 P el).bind fun by' => (bS P el).bind fun z =>
  if z.cells.size = e ∧ (argTypes[1]?).bind (fun u => cJ P u) = some el then (dS e by' s x H).bind fun r => k r.1 r.2 else none
 | .delete, [m, key] => (argTypes[0]?).bind fun t => (cK P t).bind fun kt => (cW P kt.1).bind fun fl => (oo fl m key H).bind fun H' => k (.tuple #[]) H'
 | _, _ => none
abbrev rA (P : Program) (call : bG) (ev : Operand → Value) (o : Oper) (H : AH) (k : Value → AH → Option R) : Option R :=
 match o.op with
 | .move x => k (ev x) H
 | .assign x => k (ev x) H
 | .pick c a b => (aK (ev c) (ev a) (ev b)).bind fun v => k v H
 | .alloc t => (bS P t).bind fun z => k (.pointer (some ⟨H.size, 0, none⟩)) (H.push (.cells false z.cells.toList))
 | .box _ x => k (.pointer (some ⟨H.size, 0, none⟩)) (H.push (.cells false (ev x).cells.toList))
 | .build t parts => match P.underlying t with
  | some (.struct fs) => (bS P t).bind fun z => (jG P fs.toList).bind fun ps => (dp (ps[·]?) z.cells.toList (parts.toList.map fun p => (p.1, ev p.2))).bind fun cs => k (.agg cs.toArray) H
  | some (.array _ el) => (bS P t).bind fun z => (cR P el).bind fun e => (dp (fun i => some (i * e, e)) z.cells.toList (parts.toList.map fun p => (p.1, ev p.2))).bind fun cs => k (.agg cs.toArray) H
  | _ => none
 | .buildSlice t len parts => (cJ P t).bind fun el => (cR P el).bind fun e => (bS P el).bind fun z =>
  if 0 < e ∧ z.cells.size = e ∧ len * e ≤ 2 ^ 24 then
   (dp (fun i => some (i * e, e)) (List.replicate len z.cells.toList).flatten (parts.toList.map fun p => (p.1, ev p.2))).bind fun cs => k (.slice (some ⟨H.size, 0, none⟩) len e) (H.push (.cells false cs))
  else none
 | .load t a => (fU P t).bind fun g => match g with
  | some n => (ax n (ev a) H).bind fun v => k v H
  | none => (aq (ev a) H).bind fun v => k v H
 | .store t a x => (cR P t).bind fun n => (cH n (ev a) (ev x) H).bind fun H' => k undef H'
 | .nilCheck x => (vT (ev x)).bind fun v => k v H
 | .binOp op t x y _ => (aj (Bt P t) op (ev x) (ev y)).bind fun v => k v H
 | .unOp op _ x => (pM op (ev x)).bind fun v => k v H
 | .convert src dst x => match P.underlying src with
  | some _ => (cL (sx P dst) (ev x)).bind fun v => k v H
  | none => none
 | .makeFunc fn first captured => k (.func fn (first.map ev) (captured.map ev)) H
 | .makeMap _ none => k (.map (some H.size)) (H.push (.map [] 0))
 | .makeSlice t l c => (cJ P t).bind fun el => (cR P el).bind fun e => (f9 P el).bind fun by' => (bS P el).bind fun z => (nz z.cells.toList e by' (ev l) (ev c) H).bind fun r => k r.1 r.2
 | .slice t x lo hi none => (cJ P t).bind fun el => (cR P el).bind fun e => (fO e (ev x) (lo.map ev) (hi.map ev)).bind fun v => k v H
 | .slice t x none (some hi) (some mx) => (cJ P t).bind fun el => (cR P el).bind fun _ => (jF (ev x) (ev hi) (ev mx)).bind fun v => k v H
 | .fieldAddr s x f => (kA P s f).bind fun f => (cR P f.type).bind fun n => if n = 0 then none else (Ia f.offset (ev x)).bind fun v => k v H
 | .field s x f => (kA P s f).bind fun f => (fU P f.type).bind fun n => (lP n f.offset (ev x)).bind fun v => k v H
 | .indexAddr t x i => match P.underlying t with
  | some (.slice el) => (cR P el).bind fun e => (pL e (ev x) (ev i)).bind fun v => k v H
  | some (.array len el) => (cR P el).bind fun e => (jb len e (ev x) (ev i)).bind fun v => k v H
  | _ => none
 | .index t x i => match P.underlying t with
  | some (.array len el) => (cR P el).bind fun e => (fU P el).bind fun n => (jE len n e (ev x) (ev i)).bind fun v => k v H
  | some .string => (jD (ev x) (ev i)).bind fun v => k v H
  | _ => none
 | .lookup t m key ok => (cK P t).bind fun kt => (cW P kt.1).bind fun fl => (bS P kt.2).bind fun z => (cZ fl z (ev m) (ev key) ok H).bind fun v => k v H
 | .mapUpdate t m key x => (cK P t).bind fun kt => (cW P kt.1).bind fun fl => (e8 fl (ev m) (ev key) (ev x) H).bind fun H' => k undef H'
 | .extract t i => (ag (ev t) i).bind fun v => k v H
 | .call c => match c.callee with
  | .builtin b => gT P b c.argTypes (c.args.toList.map ev) H k
  | .value f => (di (ev f) (c.args.toList.map ev)).bind fun fa => (call fa.1 fa.2 H).bind fun r => k r.1 r.2
  | _ => none
 | _ => none
abbrev EK (P : Program) (b : Builtin) (argTypes : Array TypeId) (args : List Value) (H : AH) (k : Value → AH → Option R) : Option R :=
 match b, args with
 | .len, [x] => match (argTypes[0]?).bind fun t => P.underlying t with
  | some (.slice _) => match x with | .slice _ n _ => k (.int .i64 n) H | _ => none
  | some .string => match x with | .string s => k (.int .i64 s.size) H | _ => none
  | some (.map _ _) => (ot x H).bind fun v => k v H
  | _ => none
 | .max, args => (gk args).bind fun v => k v H
 | .min, args => (jS args).bind fun v => k v H
 | .append, [s, x] => tb (argTypes[0]?) fun t => tb (cJ P t) fun el => tb (cR P el) fun e => tb (f9 P el) fun by' => tb (bS P el) fun z =>
  if z.cells.size = e ∧ (argTypes[1]?).bind (fun u => cJ P u) = some el then (dS e by' s x H).bind fun r => k r.1 r.2 else none
 | .delete, [m, key] => tb (argTypes[0]?) fun t => tb (cK P t) fun kt => tb (cW P kt.1) fun fl => (oo fl m key H).bind fun H' => k (.tuple #[]) H'
 | _, _ => none
abbrev cOp (P : Program) (call : bG) (ev : Operand → Value) (o : Oper) (H : AH) (k : Value → AH → Option R) : Option R :=
 match o.op with
 | .move x => k (ev x) H
 | .assign x => k (ev x) H
 | .pick c a b => (aK (ev c) (ev a) (ev b)).bind fun v => k v H
 | .alloc t => tb (bS P t) fun z => k (.pointer (some ⟨H.size, 0, none⟩)) (H.push (.cells false z.cells.toList))
 | .box _ x => k (.pointer (some ⟨H.size, 0, none⟩)) (H.push (.cells false (ev x).cells.toList))
 | .build t parts => match P.underlying t with
  | some (.struct fs) => tb (bS P t) fun z => tb (jG P fs.toList) fun ps => (dp (ps[·]?) z.cells.toList (parts.toList.map fun p => (p.1, ev p.2))).bind fun cs => k (.agg cs.toArray) H
  | some (.array _ el) => tb (bS P t) fun z => tb (cR P el) fun e => (dp (fun i => some (i * e, e)) z.cells.toList (parts.toList.map fun p => (p.1, ev p.2))).bind fun cs => k (.agg cs.toArray) H
  | _ => none
 | .buildSlice t len parts => tb (cJ P t) fun el => tb (cR P el) fun e => tb (bS P el) fun z =>
  if 0 < e ∧ z.cells.size = e ∧ len * e ≤ 2 ^ 24 then
   (dp (fun i => some (i * e, e)) (List.replicate len z.cells.toList).flatten (parts.toList.map fun p => (p.1, ev p.2))).bind fun cs => k (.slice (some ⟨H.size, 0, none⟩) len e) (H.push (.cells false cs))
  else none
 | .load t a => tb (fU P t) fun g => match g with
  | some n => (ax n (ev a) H).bind fun v => k v H
  | none => (aq (ev a) H).bind fun v => k v H
 | .store t a x => tb (cR P t) fun n => (cH n (ev a) (ev x) H).bind fun H' => k undef H'
 | .nilCheck x => (vT (ev x)).bind fun v => k v H
 | .binOp op t x y _ => (aj (Bt P t) op (ev x) (ev y)).bind fun v => k v H
 | .unOp op _ x => (pM op (ev x)).bind fun v => k v H
 | .convert src dst x => match P.underlying src with
  | some _ => (cL (sx P dst) (ev x)).bind fun v => k v H
  | none => none
 | .makeFunc fn first captured => k (.func fn (first.map ev) (captured.map ev)) H
 | .makeMap _ none => k (.map (some H.size)) (H.push (.map [] 0))
 | .makeSlice t l c => tb (cJ P t) fun el => tb (cR P el) fun e => tb (f9 P el) fun by' => tb (bS P el) fun z => (nz z.cells.toList e by' (ev l) (ev c) H).bind fun r => k r.1 r.2
 | .slice t x lo hi none => tb (cJ P t) fun el => tb (cR P el) fun e => (fO e (ev x) (lo.map ev) (hi.map ev)).bind fun v => k v H
 | .slice t x none (some hi) (some mx) => tb (cJ P t) fun el => tb (cR P el) fun _ => (jF (ev x) (ev hi) (ev mx)).bind fun v => k v H
 | .fieldAddr s x f => tb (kA P s f) fun f => tb (cR P f.type) fun n => if n = 0 then none else (Ia f.offset (ev x)).bind fun v => k v H
 | .field s x f => tb (kA P s f) fun f => tb (fU P f.type) fun n => (lP n f.offset (ev x)).bind fun v => k v H
 | .indexAddr t x i => match P.underlying t with
  | some (.slice el) => tb (cR P el) fun e => (pL e (ev x) (ev i)).bind fun v => k v H
  | some (.array len el) => tb (cR P el) fun e => (jb len e (ev x) (ev i)).bind fun v => k v H
  | _ => none
 | .index t x i => match P.underlying t with
  | some (.array len el) => tb (cR P el) fun e => tb (fU P el) fun n => (jE len n e (ev x) (ev i)).bind fun v => k v H
  | some .string => (jD (ev x) (ev i)).bind fun v => k v H
  | _ => none
 | .lookup t m key ok => tb (cK P t) fun kt => tb (cW P kt.1) fun fl => tb (bS P kt.2) fun z => (cZ fl z (ev m) (ev key) ok H).bind fun v => k v H
 | .mapUpdate t m key x => tb (cK P t) fun kt => tb (cW P kt.1) fun fl => (e8 fl (ev m) (ev key) (ev x) H).bind fun H' => k undef H'
 | .extract t i => (ag (ev t) i).bind fun v => k v H
 | .call c => match c.callee with
  | .builtin b => EK P b c.argTypes (c.args.toList.map ev) H k
  | .value f => (di (ev f) (c.args.toList.map ev)).bind fun fa => (call fa.1 fa.2 H).bind fun r => k r.1 r.2
  | _ => none
 | _ => none
theorem gK {α β γ : Type} (x : Option α) (b : β) (k : α → β → Option γ) : ((x.map (·, b)).bind fun r => k r.1 r.2) = x.bind fun v => k v b := by cases x <;> rfl
theorem Ao {β γ : Type} (x : Option β) (v : Value) (k : Value → β → Option γ) : ((x.map fun H' => (v, H')).bind fun r => k r.1 r.2) = x.bind fun H' => k v H' := by cases x <;> rfl
theorem J5 (P : Program) (b : Builtin) (ts : Array TypeId) (args : List Value) (H : AH) (k : Value → AH → Option R) : gT P b ts args H k = (cV P b ts args H).bind fun r => k r.1 r.2 := by
 cases b with
 | len =>
  match args with
  | [] => rfl
  | [x] =>
   simp only [gT, cV]
   cases (ts[0]?).bind fun t => P.underlying t with
   | none => rfl
   | some d => cases d <;> first | rfl | (cases x <;> rfl) | (simp only [gK])
  | x :: y :: zs => rfl
 | max => simp only [gT, cV, gK]
 | min => simp only [gT, cV, gK]
 | append =>
  match args with
  | [] => rfl
  | [x] => rfl
  | [s, x] =>
   simp only [gT, cV, Option.bind_assoc]
   congr 1; funext t; congr 1; funext el; congr 1; funext e; congr 1; funext b; congr 1; funext z
   split
   ·rfl
   ·rfl
  | x :: y :: z :: zs => rfl
 | delete =>
  match args with
  | [] => rfl
  | [x] => rfl
  | [s, x] => simp only [gT, cV, Option.bind_assoc, Ao]
  | x :: y :: z :: zs => rfl
 | _ => rfl
theorem akT (P : Program) (call : bG) (ev : Operand → Value) (o : Oper) (H : AH) (k : Value → AH → Option R) : rA P call ev o H k = (fe P call ev o H).bind fun r => k r.1 r.2 := by
 obtain ⟨dst, op, type, pos, after, guard⟩ := o
 cases op with
 | call c =>
  obtain ⟨callee, args, ats⟩ := c
  cases callee with
  | value f => simp only [rA, fe, Option.bind_assoc]
  | invoke r m => rfl
  | builtin b => simp only [rA, fe]; exact J5 ..
 | makeMap t r => cases r <;> rfl
 | slice t x lo hi mx =>
  cases mx with
  | none => simp only [rA, fe, Option.bind_assoc, gK]
  | some m => cases lo <;> cases hi <;> first | rfl | (simp only [rA, fe, Option.bind_assoc, gK])
 | load t a =>
  simp only [rA, fe, Option.bind_assoc]
  congr 1
  funext g
  cases g <;> simp only [gK]
 | build t parts =>
  simp only [rA, fe]
  cases P.underlying t with
  | none => rfl
  | some d => cases d <;> first | rfl | (simp only [Option.bind_assoc, Option.bind_map]; rfl)
 | buildSlice t len parts =>
  simp only [rA, fe, Option.bind_assoc]
  congr 1; funext el; congr 1; funext e; congr 1; funext z
  split
  ·rw [Option.bind_map]; rfl
  ·rfl
 | fieldAddr s x f =>
  simp only [rA, fe, Option.bind_assoc]
  congr 1; funext el; congr 1; funext e
  split
  ·rfl
  ·rw [gK]
 | alloc t => simp only [rA, fe, Option.bind_map]; rfl
 | indexAddr t x i =>
  simp only [rA, fe]
  cases P.underlying t with
  | none => rfl
  | some d => cases d <;> first | rfl | (simp only [Option.bind_assoc, gK])
 | index t x i =>
  simp only [rA, fe]
  cases P.underlying t with
  | none => rfl
  | some d => cases d <;> first | rfl | (simp only [Option.bind_assoc, gK])
 | convert s d x =>
  simp only [rA, fe]
  cases P.underlying s with
  | none => rfl
  | some d => simp only [gK]
 | store t x y => simp only [rA, fe, Option.bind_assoc, Ao]
 | mapUpdate t m key x => simp only [rA, fe, Option.bind_assoc, Ao]
 | _ => first | rfl | (simp only [rA, fe, Option.bind_assoc, gK]; done)
theorem PD (P : Program) (b : Builtin) (ts : Array TypeId) (args : List Value) (H : AH) (k : Value → AH → Option R) : EK P b ts args H k = gT P b ts args H k := by
 unfold EK gT;simp only [OY]
theorem arG (P : Program) (call : bG) (ev : Operand → Value) (o : Oper) (H : AH) (k : Value → AH → Option R) : cOp P call ev o H k = rA P call ev o H k := by
 unfold cOp rA;simp only [OY, PD]
theorem abZ (P : Program) (call : bG) (ev : Operand → Value) (o : Oper) (H : AH) (k : Value → AH → Option R) : cOp P call ev o H k = (fe P call ev o H).bind fun r => k r.1 r.2 := (arG ..).trans (akT ..)
def LU (op : Op) : Bool := lA op == 0 || lA op == 2
theorem Ze {P : Program} {call : bG} {ev : Operand → Value} {o : Oper} {H : AH} (h : LU o.op = true) : fe P call ev o H = (cOp P call ev o H fun v _ => some v).map (·, H) := by
 rw [abZ]
 cases hx : fe P call ev o H with
 | none => rfl
 | some r =>
  obtain ⟨v, H'⟩ := r;simp only [bJ, fp];unfold LU at h;simp only [Bool.or_eq_true, beq_iff_eq] at h
  rcases h with h | h
  ·rw [(wT h hx).1]
  ·rw [Eo h] at hx
   obtain ⟨y, _, e⟩ := bj.1 hx;rw [(Prod.mk.inj e).2]
abbrev S4 (P : Program) (G : List Nat) (call : bG) (ops : Array Oper) (o : Oper) (A : List Value) (H : AH) (k : List Value → AH → Option R) : Option R :=
 match o.op.operands.toList.all (Pn G) with
 | true => match o.guard with
  | none => cOp P call (fX A) o H fun v H' => k (lV A o.dst v) H'
  | some g => match LU o.op with
   | true => (match dO ops A g.1 == some g.2 with
    | true => cOp P call (fX A) o H fun v _ => some v
    | false => some undef).bind fun v => k (lV A o.dst v) H
   | false => (match dO ops A g.1 == some g.2 with
    | true => fe P call (fX A) o H
    | false => some (undef, H)).bind fun r => k (lV A o.dst r.1) r.2
 | false => none
theorem Nq (P : Program) (G : List Nat) (call : bG) (ops : Array Oper) (o : Oper) (A : List Value) (H : AH) (k : List Value → AH → Option R) : S4 P G call ops o A H k = (gG P G call ops o A H).bind fun s => k s.1 s.2 := by
 unfold S4 gG
 cases o.op.operands.toList.all (Pn G) with
 | false => rfl
 | true =>
  simp only [if_true];unfold Region.wanted
  cases o.guard with
  | none =>
   simp only [if_true];rw [abZ, Option.bind_map]; rfl
  | some g =>
   obtain ⟨g, want⟩ := g;simp only
   cases hl : LU o.op with
   | true =>
    simp only
    by_cases h : (dO ops A g == some want) = true
    ·rw [if_pos h, h, Ze hl]
     simp only
     cases (cOp P call (fX A) o H fun v _ => some v) <;> rfl
    ·rw [if_neg h, Bool.eq_false_iff.2 h]; rfl
   | false =>
    simp only
    by_cases h : (dO ops A g == some want) = true
    ·rw [if_pos h, h, Option.bind_map]; rfl
    ·rw [if_neg h, Bool.eq_false_iff.2 h]; rfl
abbrev ab0 (P : Program) (G : List Nat) (call : bG) (ops : Array Oper) : List Oper → List Value → AH → (List Value → AH → Option R) → Option R
 | [], A, H, k => k A H
 | o :: rest, A, H, k => S4 P G call ops o A H fun A' H' => ab0 P G call ops rest A' H' k
theorem S3 (P : Program) (G : List Nat) (call : bG) (ops : Array Oper) : ∀ (l : List Oper) (A : List Value) (H : AH) (k : List Value → AH → Option R), ab0 P G call ops l A H k = (dk P G call ops l A H).bind fun s => k s.1 s.2 := by
 intro l
 induction l with
 | nil => intro A H k; rfl
 | cons o l ih =>
  intro A H k;simp only [ab0, dk];rw [Nq, Option.bind_assoc]
  congr 1
  funext s
  exact ih _ _ _
noncomputable def bT {R : Type} (x y : Option Value) (k : Option R) : Option R := Nr (x = y) k
theorem apI {R : Type} {x y : Option Value} (h : x = y) (k : Option R) : bT x y k = k := kU h k
noncomputable abbrev WQ {R : Type} (j : Nat) (hist : List ((AH → Option Value) × AH)) (rd : AH → Option Value) (H H' : AH) (k : Option R) : List (Nat × Nat) → Option R
 | [] => k
 | pq :: rest => match pq.1 == j with
  | true => match Nat.blt pq.2 j with
   | true => match hist[pq.2]? with
    | some h => bT (rd h.2) (rd H) (WQ j hist rd H H' k rest)
    | none => none
   | false => WQ j hist rd H H' k rest
  | false => match pq.2 == j with
   | true => match Nat.blt pq.1 j with
    | true => match hist[pq.1]? with
     | some h => bT (h.1 H') (h.1 h.2) (WQ j hist rd H H' k rest)
     | none => none
    | false => WQ j hist rd H H' k rest
   | false => WQ j hist rd H H' k rest
theorem Ns {α β : Type} (p : Prop) (x : Option α) (k : α → Option β) : (Nr p x).bind k = Nr p (x.bind k) := by unfold Nr; split <;> rfl
theorem ab6 {α β : Type} {j : Nat} {hist : List ((AH → Option Value) × AH)} {rd : AH → Option Value} {H H' : AH} (x : Option α) (k : α → Option β) : ∀ l, (WQ j hist rd H H' x l).bind k = WQ j hist rd H H' (x.bind k) l := by
 intro l
 induction l with
 | nil => rfl
 | cons p l ih =>
  simp only [WQ]
  cases p.1 == j with
  | true =>
   cases Nat.blt p.2 j with
   | true =>
    simp only
    cases hist[p.2]? with
    | none => rfl
    | some h => simp only [bT]; rw [Ns, ih]
   | false => exact ih
  | false =>
   cases p.2 == j with
   | true =>
    cases Nat.blt p.1 j with
    | true =>
     simp only
     cases hist[p.1]? with
     | none => rfl
     | some h => simp only [bT]; rw [Ns, ih]
    | false => exact ih
   | false => exact ih
def ckP (j : Nat) (hist : List ((AH → Option Value) × AH)) (rd : AH → Option Value) (H H' : AH) (p : Nat × Nat) : Prop :=
 (p.1 = j → p.2 < j → ∃ h, hist[p.2]? = some h ∧ rd h.2 = rd H) ∧ (p.2 = j → p.1 < j → ∃ h, hist[p.1]? = some h ∧ h.1 H' = h.1 h.2)
theorem S6 {α : Type} {p : Prop} {x : Option α} {r : α} : Nr p x = some r ↔ p ∧ x = some r := ⟨o8, fun h => by rw [kU h.1]; exact h.2⟩
theorem S8 {α : Type} {j : Nat} {hist : List ((AH → Option Value) × AH)} {rd : AH → Option Value} {H H' : AH} {x : Option α} {r : α} : ∀ {l}, WQ j hist rd H H' x l = some r ↔ (∀ p ∈ l, ckP j hist rd H H' p) ∧ x = some r := by
 intro l
 induction l with
 | nil => simp [WQ]
 | cons p l ih =>
  have split : (∀ q ∈ p :: l, ckP j hist rd H H' q) ↔ ckP j hist rd H H' p ∧ ∀ q ∈ l, ckP j hist rd H H' q := by simp
  rw [split, and_assoc, ← ih];simp only [WQ]
  by_cases h1 : p.1 = j
  ·have e1 : (p.1 == j) = true := by simpa using h1
   rw [e1];simp only
   by_cases h2 : p.2 < j
   ·have e2 : Nat.blt p.2 j = true := by simpa [Nat.blt_eq] using h2
    rw [e2];simp only
    have hn : ¬ p.2 = j := by omega
    unfold ckP
    cases hist[p.2]? with
    | none => simp [h1, h2]
    | some h => simp only [bT]; rw [S6]; simp [h1, h2, hn]
   ·have e2 : Nat.blt p.2 j = false := by rw [Bool.eq_false_iff]; intro h; exact h2 (by simpa [Nat.blt_eq] using h)
    rw [e2];simp only;have : ckP j hist rd H H' p := ⟨fun _ h => absurd h h2, fun _ h => absurd h (by omega)⟩;simp [this]
  ·have e1 : (p.1 == j) = false := by simpa using h1
   rw [e1];simp only
   by_cases h2 : p.2 = j
   ·have e2 : (p.2 == j) = true := by simpa using h2
    rw [e2];simp only
    by_cases h3 : p.1 < j
    ·have e3 : Nat.blt p.1 j = true := by simpa [Nat.blt_eq] using h3
     rw [e3];simp only;unfold ckP
     cases hist[p.1]? with
     | none => simp [h1, h2, h3]
     | some h => simp only [bT]; rw [S6]; simp [h1, h2, h3]
    ·have e3 : Nat.blt p.1 j = false := by rw [Bool.eq_false_iff]; intro h; exact h3 (by simpa [Nat.blt_eq] using h)
     rw [e3];simp only;have : ckP j hist rd H H' p := ⟨fun h => absurd h h1, fun _ h => absurd h h3⟩;simp [this]
   ·have e2 : (p.2 == j) = false := by simpa using h2
    rw [e2];simp only;have : ckP j hist rd H H' p := ⟨fun h => absurd h h1, fun h => absurd h h2⟩;simp [this]
abbrev MC (P : Program) (A : List Value) (o : Oper) : AH → Option Value := fun H => Ep P (fX A) o.op H
noncomputable def rN (P : Program) (G : List Nat) (call : bG) (ops : Array Oper) (pairs : List (Nat × Nat)) : List Oper → Nat → List ((AH → Option Value) × AH) → List Value → AH → Option (List Value × AH)
 | [], _, _, A, H => some (A, H)
 | o :: rest, j, hist, A, H => (gG P G call ops o A H).bind fun s => WQ j hist (MC P A o) H s.2 (rN P G call ops pairs rest (j + 1) (hist ++ [(MC P A o, H)]) s.1 s.2) pairs
noncomputable abbrev S2 (P : Program) (G : List Nat) (call : bG) (ops : Array Oper) (pairs : List (Nat × Nat)) : List Oper → Nat → List ((AH → Option Value) × AH) → List Value → AH → (List Value → AH → Option R) → Option R
 | [], _, _, A, H, k => k A H
 | o :: rest, j, hist, A, H, k => S4 P G call ops o A H fun A' H' => WQ j hist (MC P A o) H H' (S2 P G call ops pairs rest (j + 1) (hist ++ [(MC P A o, H)]) A' H' k) pairs
theorem ab1 (P : Program) (G : List Nat) (call : bG) (ops : Array Oper) (pairs : List (Nat × Nat)) : ∀ (l : List Oper) (j : Nat) (hist : List ((AH → Option Value) × AH)) (A : List Value) (H : AH) (k : List Value → AH → Option R), S2 P G call ops pairs l j hist A H k = (rN P G call ops pairs l j hist A H).bind fun s => k s.1 s.2 := by
 intro l
 induction l with
 | nil => intro j hist A H k; rfl
 | cons o l ih =>
  intro j hist A H k;simp only [S2, rN];rw [Nq, Option.bind_assoc]
  congr 1
  funext s
  rw [ab6, ih]
theorem WC {P : Program} {G : List Nat} {call : bG} {ops : Array Oper} {pairs : List (Nat × Nat)} {A0 : List Value} {H0 : AH} {r0 : List Value × AH} (h0 : dk P G call ops ops.toList A0 H0 = some r0) (hp : ∀ p ∈ pairs, p.1 < ops.size ∧ p.2 < ops.size ∧ p.1 ≠ p.2) :
 ∀ (l : List Oper) (j : Nat) (hist : List ((AH → Option Value) × AH)), ops.toList.drop j = l → hist.length = j → (∀ i, i < j → ∃ o, ops[i]? = some o ∧ hist[i]? = some (MC P (jY P G call ops A0 H0 i).1 o, (jY P G call ops A0 H0 i).2)) →
  ∀ r, rN P G call ops pairs l j hist (jY P G call ops A0 H0 j).1 (jY P G call ops A0 H0 j).2 = some r ↔ (∀ p ∈ pairs, j ≤ max p.1 p.2 → j6 P (jY P G call ops A0 H0) ops p) ∧ r = r0 := by
 intro l
 induction l with
 | nil =>
  intro j hist hl hlen hh r
  have hj : ops.size ≤ j := by
   have := congrArg List.length hl;simp at this; omega
  have hst : jY P G call ops A0 H0 j = r0 := by
   unfold jY;rw [List.take_of_length_le (by simpa using hj), h0]; rfl
  simp only [rN, hst]
  constructor
  ·intro e
   exact ⟨fun p hpm hm => absurd (hp p hpm) (by omega), (gD e).symm⟩
  ·rintro ⟨_, rfl⟩; rfl
 | cons o l ih =>
  intro j hist hl hlen hh r
  have hj : ops.toList[j]? = some o := by
   have := congrArg (·[0]?) hl
   simpa using this
  have ho : ops[j]? = some o := by simpa using hj
  have hjs : j < ops.size := by
   have := (HU.1 hj).1
   simpa using this
  have hstep := OO h0 ho
  have hl' : ops.toList.drop (j + 1) = l := by
   have := congrArg (List.drop 1) hl
   simpa [List.drop_drop, Nat.add_comm] using this
  have hh' : ∀ i, i < j + 1 → ∃ o', ops[i]? = some o' ∧ (hist ++ [(MC P (jY P G call ops A0 H0 j).1 o, (jY P G call ops A0 H0 j).2)])[i]? = some (MC P (jY P G call ops A0 H0 i).1 o', (jY P G call ops A0 H0 i).2) := by
   intro i hi
   by_cases e : i = j
   ·subst e
    exact ⟨o, ho, by rw [List.getElem?_append_right (by omega)]; simp [hlen]⟩
   ·obtain ⟨o', h1, h2⟩ := hh i (by omega)
    exact ⟨o', h1, by rw [List.getElem?_append_left (by omega)]; exact h2⟩
  have hi := ih (j + 1) _ hl' (by simp [hlen]) hh' r;simp only [rN];rw [hstep];simp only [bJ];rw [S8, hi]
  have key : ∀ p ∈ pairs, max p.1 p.2 = j → (ckP j hist (MC P (jY P G call ops A0 H0 j).1 o) (jY P G call ops A0 H0 j).2 (jY P G call ops A0 H0 (j + 1)).2 p ↔ j6 P (jY P G call ops A0 H0) ops p) := by
   intro p hpm hm;obtain ⟨h1, h2, h3⟩ := hp p hpm;unfold ckP j6
   by_cases hlt : p.2 < p.1
   ·have e1 : p.1 = j := by omega
    obtain ⟨o2, _, hg⟩ := hh p.2 (by omega);rw [if_pos hlt]
    constructor
    ·intro ⟨a, _⟩ o' ho'
     rw [e1, ho] at ho';cases ho';obtain ⟨h, hg', e⟩ := a e1 (by omega);rw [hg] at hg';cases hg';rw [e1];exact e
    ·intro a
     refine ⟨fun _ _ => ⟨_, hg, ?_⟩, fun e => absurd e (by omega)⟩;have := a o (by rw [e1]; exact ho);rw [e1] at this;exact this
   ·have e2 : p.2 = j := by omega
    obtain ⟨o1, ho1, hg⟩ := hh p.1 (by omega);rw [if_neg hlt, e2]
    constructor
    ·intro ⟨_, a⟩ o' ho'
     rw [ho1] at ho';cases ho';obtain ⟨h, hg', e⟩ := a rfl (by omega);rw [hg] at hg';cases hg';exact e
    ·intro a
     refine ⟨fun e => absurd e (by omega), fun _ _ => ⟨_, hg, a o1 ho1⟩⟩
  have out : ∀ p ∈ pairs, max p.1 p.2 ≠ j → ckP j hist (MC P (jY P G call ops A0 H0 j).1 o) (jY P G call ops A0 H0 j).2 (jY P G call ops A0 H0 (j + 1)).2 p := by
   intro p hpm hm;exact ⟨fun h1 h2 => absurd hm (by omega), fun h1 h2 => absurd hm (by omega)⟩
  constructor
  ·rintro ⟨a, b, c⟩
   refine ⟨fun p hpm hm => ?_, c⟩
   by_cases e : max p.1 p.2 = j
   ·exact (key p hpm e).1 (a p hpm)
   ·exact b p hpm (by omega)
  ·rintro ⟨a, c⟩
   refine ⟨fun p hpm => ?_, fun p hpm hm => a p hpm (by omega), c⟩
   by_cases e : max p.1 p.2 = j
   ·exact (key p hpm e).2 (a p hpm (by omega))
   ·exact out p hpm e
theorem Pv {P : Program} {G : List Nat} {call : bG} {ops : Array Oper} {pairs : List (Nat × Nat)} : ∀ (l : List Oper) (j : Nat) (hist : List ((AH → Option Value) × AH)) (A : List Value) (H : AH) (r : List Value × AH), rN P G call ops pairs l j hist A H = some r → dk P G call ops l A H = some r := by
 intro l
 induction l with
 | nil => intro j hist A H r h; exact h
 | cons o l ih =>
  intro j hist A H r h;simp only [rN] at h;obtain ⟨s, hs, h⟩ := aH.1 h;simp only [dk];rw [hs];exact ih _ _ _ _ _ (S8.1 h).2
theorem LZ {ops : Array Oper} : ∀ p ∈ dY ops.toList, p.1 < ops.size ∧ p.2 < ops.size ∧ p.1 ≠ p.2 := by
 intro p hp;unfold dY at hp;simp only [List.mem_flatMap, List.mem_filter, List.mem_map] at hp;obtain ⟨x, ⟨hx, hx2⟩, y, ⟨hy, hy2⟩, rfl⟩ := hp;have hx := List.mem_zipIdx hx;have hy := List.mem_zipIdx hy;simp only [beq_iff_eq] at hx2;simp only [Bool.and_eq_true, beq_iff_eq] at hy2;refine ⟨by have := hx.2.1; simpa using this, by have := hy.2.1; simpa using this, ?_⟩;intro e;simp only at e;have e3 := hy2.1.1;have ex := hx.2.2;have ey := hy.2.2;simp only [e, Nat.sub_zero] at ex ey
 have : x.1 = y.1 := by rw [ex, ey]
 rw [this, e3] at hx2;cases hx2
theorem PF {P : Program} {G : List Nat} {call : bG} {ops : Array Oper} {pairs : List (Nat × Nat)} (hp : ∀ p ∈ pairs, p.1 < ops.size ∧ p.2 < ops.size ∧ p.1 ≠ p.2) (A : List Value) (H : AH) :
 Nr (∀ q ∈ pairs, j6 P (jY P G call ops A H) ops q) (dk P G call ops ops.toList A H) = rN P G call ops pairs ops.toList 0 [] A H := by
 cases hx : dk P G call ops ops.toList A H with
 | none =>
  cases hy : rN P G call ops pairs ops.toList 0 [] A H with
  | none => unfold Nr; split <;> rfl
  | some r => have := Pv _ _ _ _ _ _ hy; rw [hx] at this; cases this
 | some r0 =>
  have hi := WC hx hp ops.toList 0 [] rfl rfl (fun i hi => absurd hi (by omega));simp only [aiY] at hi
  cases hy : rN P G call ops pairs ops.toList 0 [] A H with
  | none =>
   cases hz : Nr (∀ q ∈ pairs, j6 P (jY P G call ops A H) ops q) (some r0) with
   | none => rfl
   | some r =>
    obtain ⟨h1, h2⟩ := o8 hz;have := (hi r0).2 ⟨fun p hpm _ => h1 p hpm, rfl⟩;rw [hy] at this; cases this
  | some r =>
   obtain ⟨h1, h2⟩ := (hi r).1 hy;rw [kU (fun p hpm => h1 p hpm (by omega)), h2]
noncomputable abbrev J6 (P : Program) (G : List Nat) (call : bG) (ops : Array Oper) (draw : Bool) (A : List Value) (H : AH) (k : List Value → AH → Option R) : Option R :=
 match draw with
 | false => ab0 P G call ops ops.toList A H k
 | true => match vc ops.toList with
  | false => none
  | true => match dY ops.toList with
   | [] => ab0 P G call ops ops.toList A H k
   | p :: ps => S2 P G call ops (p :: ps) ops.toList 0 [] A H k
theorem PE (P : Program) (G : List Nat) (call : bG) (ops : Array Oper) (draw : Bool) (A : List Value) (H : AH) (k : List Value → AH → Option R) : J6 P G call ops draw A H k = (gm P G call ops draw A H).bind fun s => k s.1 s.2 := by
 unfold J6 gm nQ
 cases draw with
 | false => exact S3 ..
 | true =>
  simp only
  cases vc ops.toList with
  | false => rfl
  | true =>
   simp only
   cases hl : dY ops.toList with
   | nil => exact S3 ..
   | cons p ps =>
    simp only;rw [PF (fun q hq => LZ q (by rw [hl]; exact hq)), ab1]
def akY (kn : List Value → AH → Option R) (kx : Nat → List Value → AH → Option R) (kr : List Value → AH → Option R) (r : AR) : Option R :=
 match r.1 with
 | .normal => kn r.2.1 r.2.2
 | .exit i => kx i r.2.1 r.2.2
 | .ret => kr r.2.1 r.2.2
noncomputable def jh (P : Program) (G : List Nat) (call : bG) (x : Code) (A : List Value) (H : AH) (kx : Nat → List Value → AH → Option R) (kr : List Value → AH → Option R) : Option R :=
 (qP (aX P G call x) A H).bind (akY (fun _ _ => none) kx kr)
noncomputable abbrev be (P : Program) (G : List Nat) (call : bG) : Code → List Value → AH → (List Value → AH → Option R) → (Nat → List Value → AH → Option R) → (List Value → AH → Option R) → Option R
 | .skip, A, H, kn, _, _ => kn A H
 | .label _, A, H, kn, _, _ => kn A H
 | .region _ ops draw, A, H, kn, _, _ => J6 P G call ops draw A H kn
 | .seq x y, A, H, kn, kx, kr => be P G call x A H (fun A H => be P G call y A H kn kx kr) kx kr
 | .cond c x y, A, H, kn, kx, kr => match fX A c with
  | .bool true => be P G call x A H kn kx kr
  | .bool false => be P G call y A H kn kx kr
  | _ => none
 | .block id x, A, H, kn, kx, kr => be P G call x A H kn (fun i A H => if i = id then kn A H else kx i A H) kr
 | .loop x, A, H, _, kx, kr => jh P G call x A H kx kr
 | .exit id, A, H, _, kx, _ => kx id A H
 | .ret, A, H, _, _, kr => kr A H
 | _, _, _, _, _, _ => none
theorem WA {f : List Value → AH → Option AR} : ∀ {n : Nat} {A : List Value} {H : AH} {r : AR}, fC f n A H = some r → r.1 ≠ .normal := by
 intro n
 induction n with
 | zero => intro A H r h; cases h
 | succ n ih =>
  intro A H r h;simp only [fC] at h;obtain ⟨s, hs, h⟩ := aH.1 h
  split at h
  ·exact ih h
  ·rename_i e
   cases h;exact fun he => e he
theorem WB {f : List Value → AH → Option AR} {A : List Value} {H : AH} {r : AR} (h : qP f A H = some r) : r.1 ≠ .normal := by
 obtain ⟨n, hn⟩ := dj.1 h;exact WA hn
theorem w4 (P : Program) (G : List Nat) (call : bG) : ∀ (c : Code) (A : List Value) (H : AH) (kn : List Value → AH → Option R) (kx : Nat → List Value → AH → Option R) (kr : List Value → AH → Option R),
 be P G call c A H kn kx kr = (aX P G call c A H).bind (akY kn kx kr) := by
 intro c
 induction c with
 | skip => intros; rfl
 | label => intros; rfl
 | exit => intros; rfl
 | ret => intros; rfl
 | region id ops draw =>
  intro A H kn kx kr;simp only [be, aX];rw [PE, Option.bind_map]; rfl
 | seq x y ihx ihy =>
  intro A H kn kx kr;simp only [be, aX];rw [ihx, Option.bind_assoc]
  congr 1
  funext r
  obtain ⟨e, A1, H1⟩ := r
  cases e with
  | normal => simp only [akY]; exact ihy ..
  | exit i => rfl
  | ret => rfl
 | cond c x y ihx ihy =>
  intro A H kn kx kr;simp only [be, aX]
  generalize fX A c = v
  cases v with
  | bool b => cases b <;> first | exact ihx .. | exact ihy ..
  | _ => rfl
 | block id x ih =>
  intro A H kn kx kr;simp only [be, aX];rw [ih, Option.bind_map]
  congr 1
  funext r
  obtain ⟨e, A1, H1⟩ := r
  cases e with
  | normal => rfl
  | exit i =>
   simp only [akY, Function.comp]
   split <;> rfl
  | ret => rfl
 | loop x ih =>
  intro A H kn kx kr;simp only [be, aX, jh]
  cases h : qP (aX P G call x) A H with
  | none => rfl
  | some r =>
   simp only [bJ];have := WB h;obtain ⟨e, A1, H1⟩ := r
   cases e with
   | normal => exact absurd rfl this
   | exit i => rfl
   | ret => rfl
 | rangeFunc => intros; rfl
 | scope => intros; rfl
 | goto => intros; rfl
 | refuse => intros; rfl
theorem abX (P : Program) (G : List Nat) (call : bG) (x : Code) (A : List Value) (H : AH) (kx : Nat → List Value → AH → Option R) (kr : List Value → AH → Option R) :
 jh P G call x A H kx kr = be P G call x A H (fun A H => jh P G call x A H kx kr) kx kr := by
 rw [w4];unfold jh;rw [abG, Option.bind_assoc]
 congr 1
 funext r
 obtain ⟨e, A1, H1⟩ := r
 cases e <;> rfl
abbrev uI (P : Program) (A : List Value) (H : AH) : List ResultVar → (List Value → Option R) → Option R
 | [], k => k []
 | .tmp t :: rs, k => uI P A H rs fun vs => k (A[t]?.getD undef :: vs)
 | .cell a t :: rs, k => tb (fU P t) fun g => match g with
  | some n => (ax n (A[a]?.getD undef) H).bind fun v => uI P A H rs fun vs => k (v :: vs)
  | none => (aq (A[a]?.getD undef) H).bind fun v => uI P A H rs fun vs => k (v :: vs)
theorem abY (P : Program) (A : List Value) (H : AH) : ∀ (rs : List ResultVar) (k : List Value → Option R), uI P A H rs k = (uG P A H rs).bind k := by
 intro rs
 induction rs with
 | nil => intro k; rfl
 | cons r rs ih =>
  intro k;simp only [uG, Option.bind_assoc, bJ]
  cases r with
  | tmp t =>
   simp only [uI, lW, bJ];rw [ih]
  | cell a t =>
   simp only [uI, lW, Option.bind_assoc, OY]
   congr 1
   funext g
   cases g <;> (simp only; congr 1; funext v; rw [ih])
end
def tup : List Value → Value
 | [v] => v
 | vs => .tuple vs.toArray
abbrev dM (P : Program) (rs : List ResultVar) (A : List Value) (H : AH) : Option (Value × AH) := uI P A H rs fun vs => some (tup vs, H)
noncomputable def SZ (P : Program) (G : List Nat) (call : bG) (n : Nat) (rs : List ResultVar) (c : Code) (args : List Value) (H : AH) : Option (Value × AH) :=
 be P G call c (args ++ List.replicate (n - args.length) undef) H (dM P rs) (fun _ _ _ => none) (dM P rs)
theorem S0 (P : Program) (rs : List ResultVar) (A : List Value) (H : AH) : dM P rs A H = (jg P A H rs).map (·, H) := by
 unfold dM jg;rw [abY, Option.map_map]
 cases uG P A H rs with
 | none => rfl
 | some vs =>
  simp only [bJ, fp, Function.comp]
  congr 2
theorem abW (P : Program) (G : List Nat) (call : bG) (n : Nat) (rs : List ResultVar) (c : Code) (args : List Value) (H : AH) : SZ P G call n rs c args H = qO P G call n rs c args H := by
 unfold SZ qO;rw [w4]
 congr 1
 funext r
 obtain ⟨e, A1, H1⟩ := r
 cases e with
 | normal => exact S0 ..
 | exit i => rfl
 | ret => exact S0 ..
def bH (fn : Func) : Code := fn.body.getD .skip
theorem Pu {P : Program} {G : List Nat} {f : Nat} {fn : Func} (hf : P.funcs[f]? = some fn) (hb : fn.body.isSome = true) (hn : (fn.name == "runtime.NumGoroutine") = false) (hd : lC (bH fn) = none) {args : List Value} {H : AH} {r : Value × AH}
 (h : SZ P G (aF P G) fn.ntmps fn.results.toList (bH fn) args H = some r) : aF P G f args H = some r := by
 cases hc : fn.body with
 | none => rw [hc] at hb; cases hb
 | some c =>
  rw [abW] at h;unfold bH at h hd;rw [hc] at h hd;exact arA hf hc (by simpa using hn) hd h
def Code.sub : Code → List Nat → Code
 | c, [] => c
 | .seq x _, 0 :: p => Code.sub x p
 | .seq _ y, 1 :: p => Code.sub y p
 | .cond _ x _, 2 :: p => Code.sub x p
 | .cond _ _ y, 3 :: p => Code.sub y p
 | .block _ x, 4 :: p => Code.sub x p
 | .loop x, 5 :: p => Code.sub x p
 | _, _ => .skip
def yv : Value → Option Bool
 | .bool b => some b
 | _ => none
def aW {R : Type} (cs : List Value) (H : AH) (k : Value → AH → Option R) : Option R := k (.pointer (some ⟨H.size, 0, none⟩)) (H.push (.cells false cs))
def arW {R : Type} (len e : Nat) (cs : List Value) (H : AH) (k : Value → AH → Option R) : Option R := k (.slice (some ⟨H.size, 0, none⟩) len e) (H.push (.cells false cs))
def HW {R : Type} (H : AH) (k : Value → AH → Option R) : Option R := k (.map (some H.size)) (H.push (.map [] 0))
def eS {R : Type} (x : Value) (k : Value → Option R) : Option R :=
 match x with
 | .slice _ n _ => k (.int .i64 n)
 | _ => none
def amL (x : Value) : Option Value :=
 match x with
 | .slice _ _ _ => rD x
 | _ => none
def av {R : Type} (c : Value) (x y : Option R) : Option R :=
 match c with
 | .bool true => x
 | .bool false => y
 | _ => none
def zM {α : Type} (y : Option Bool) (want : Bool) (a b : Option α) : Option α :=
 match y == some want with
 | true => a
 | false => b
theorem ahP (a b : Value) : aK (.bool true) a b = some a := rfl
theorem ahO (a b : Value) : aK (.bool false) a b = some b := rfl
abbrev vi (n : Int) : Value := .int .i64 n
abbrev vw (n : Int) : Value := .int .u64 n
abbrev vu (n : Nat) : Value := .int .u64 (n : Int)
abbrev vb (b : Bool) : Value := .bool b
inductive Stp where
 | n
 | f (k : Nat)
 | i (e : Nat) (v : Value)
 | a (len e : Nat) (v : Value)
def ad {R : Type} : List Stp → Value → (Value → Option R) → Option R
 | [], a, k => k a
 | .n :: p, a, k => (vT a).bind fun a => ad p a k
 | .f o :: p, a, k => (Ia o a).bind fun a => ad p a k
 | .i e v :: p, a, k => (pL e a v).bind fun a => ad p a k
 | .a len e v :: p, a, k => (jb len e a v).bind fun a => ad p a k
def ld {R : Type} (p : List Stp) (x : Value) (H : AH) (k : Value → Option R) : Option R := ad p x fun a => (aq a H).bind k
def ldN {R : Type} (n : Nat) (p : List Stp) (x : Value) (H : AH) (k : Value → Option R) : Option R := ad p x fun a => (ax n a H).bind k
def st {R : Type} (n : Nat) (p : List Stp) (x v : Value) (H : AH) (k : AH → Option R) : Option R := ad p x fun a => (cH n a v H).bind k
def gB (c : Value) (want : Bool) (e : Option Value) : Option Value := zM (yv c) want (e.bind some) (some undef)
def gV (c : Value) (want : Bool) (e : Value) : Option Value := zM (yv c) want (some e) (some undef)
def gE (c : Value) (want : Bool) (H : AH) (e : Option (Value × AH)) : Option (Value × AH) := zM (yv c) want e (some (undef, H))
def LQ {R : Type} (c : Value) (want : Bool) : List Stp → Value → (Value → Option R) → Option R
 | [], a, k => k a
 | .n :: p, a, k => (gB c want (vT a)).bind fun a => LQ c want p a k
 | .f o :: p, a, k => (gB c want (Ia o a)).bind fun a => LQ c want p a k
 | .i e v :: p, a, k => (gB c want (pL e a v)).bind fun a => LQ c want p a k
 | .a len e v :: p, a, k => (gB c want (jb len e a v)).bind fun a => LQ c want p a k
def fc {R : Type} (c : Value) (want : Bool) (p : List Stp) (x : Value) (H : AH) (k : Value → Option R) : Option R := LQ c want p x fun a => (gB c want (aq a H)).bind k
def pz {R : Type} (c : Value) (want : Bool) (n : Nat) (p : List Stp) (x : Value) (H : AH) (k : Value → Option R) : Option R := LQ c want p x fun a => (gB c want (ax n a H)).bind k
def gY {R : Type} (ps : List (Nat × Nat)) (zero : List Value) (xs : List (Nat × Value)) (k : Value → Option R) : Option R := (dp (fun i => ps[i]?) zero xs).bind fun cs => k (.agg cs.toArray)
def amU (e : Nat) (i : Nat) : Option (Nat × Nat) := some (i * e, e)
def wL {R : Type} (len e : Nat) (zero : List Value) (xs : List (Nat × Value)) (H : AH) (k : Value → AH → Option R) : Option R := (dp (amU e) (List.replicate len zero).flatten xs).bind fun cs => arW len e cs H k
def i4 (D : Nat) (A A' : List Value) : Prop := A.length = A'.length ∧ ∀ t, D.testBit t = false → A[t]? = A'[t]?
def j4 (D : Nat) : Nat → List Value → List Value
 | _, [] => []
 | i, v :: vs => (match D.testBit i with | true => undef | false => v) :: j4 D (i + 1) vs
def clear (D : Nat) (A : List Value) : List Value := j4 D 0 A
theorem zR (D : Nat) : ∀ (A : List Value) (i : Nat), (j4 D i A).length = A.length := by
 intro A
 induction A with
 | nil => intro i; rfl
 | cons v vs ih => intro i; simp [j4, ih]
theorem HK (D : Nat) : ∀ (A : List Value) (i t : Nat), D.testBit (i + t) = false → (j4 D i A)[t]? = A[t]? := by
 intro A
 induction A with
 | nil => intro i t _; rfl
 | cons v vs ih =>
  intro i t h
  cases t with
  | zero => simp only [Nat.add_zero] at h; simp [j4, h]
  | succ t => simp only [j4, List.getElem?_cons_succ]; exact ih (i + 1) t (by rw [show i + 1 + t = i + (t + 1) from by omega]; exact h)
theorem i7 (D : Nat) (A : List Value) : i4 D A (clear D A) := ⟨(zR D A 0).symm, fun t h => (HK D A 0 t (by simpa using h)).symm⟩
def ar {R : Type} (D : Nat) (k : List Value → AH → Option R) : Prop := ∀ A A' H, i4 D A A' → k A H = k A' H
def opr (D : Nat) : Operand → Bool
 | .tmp t => !D.testBit t
 | _ => true
def SB (D : Nat) : Option Tmp → Nat
 | some d => match D.testBit d with | true => D ^^^ 2 ^ d | false => D
 | none => D
theorem anM {D : Nat} {d : Option Tmp} {t : Nat} (h : D.testBit t = false) : (SB D d).testBit t = false := by
 unfold SB
 split
 ·split
  ·rename_i hd
   rw [Nat.testBit_xor, h, Nat.testBit_two_pow];simp;intro e;subst e; rw [h] at hd; cases hd
  ·exact h
 ·exact h
theorem anN {D : Nat} {d : Option Tmp} {t : Nat} (h : (SB D d).testBit t = false) (hd : d ≠ some t) : D.testBit t = false := by
 unfold SB at h
 split at h
 ·rename_i d
  split at h
  ·rename_i hb
   rw [Nat.testBit_xor, Nat.testBit_two_pow] at h;have : ¬ d = t := fun e => hd (by rw [e])
   simpa [this] using h
  ·exact h
 ·exact h
def vS (D : Nat) (ops : Array Oper) (o : Oper) : Bool :=
 o.op.operands.toList.all (opr D) && match o.guard with
 | none => true
 | some g => match (ops[g.1]?).bind (·.dst) with
  | some t => !D.testBit t
  | none => true
def pK (ops : Array Oper) : List Oper → Nat → Option Nat
 | [], D => some D
 | o :: rest, D => match vS D ops o with
  | true => pK ops rest (SB D o.dst)
  | false => none
def uc : Code → Nat → Option Nat
 | .skip, D => some D
 | .label _, D => some D
 | .region _ ops _, D => pK ops ops.toList D
 | .seq x y, D => match uc x D with
  | some D1 => match uc y D1 with
   | some D2 => some D2
   | none => none
  | none => none
 | .cond c x y, D => match opr D c with
  | true => match uc x D, uc y D with
   | some D1, some D2 => some (D1 ||| D2)
   | _, _ => none
  | false => none
 | .block _ x, D => match uc x D with
  | some _ => some D
  | none => none
 | .loop x, D => match uc x D with
  | some _ => some D
  | none => none
 | .exit _, _ => some 0
 | .ret, _ => some 0
 | _, _ => none
section
variable {P : Program} {G : List Nat} {call : bG} {R : Type}
theorem i4.mono {D D' : Nat} {A A' : List Value} (h : i4 D A A') (hm : ∀ t, D'.testBit t = false → D.testBit t = false) : i4 D' A A' := ⟨h.1, fun t ht => h.2 t (hm t ht)⟩
theorem i4.ev {D : Nat} {A A' : List Value} (h : i4 D A A') {x : Operand} (hx : opr D x = true) : fX A x = fX A' x := by
 cases x with
 | tmp t => simp only [opr, Bool.not_eq_true'] at hx; simp only [fX]; rw [h.2 t hx]
 | _ => rfl
theorem i4.put {D : Nat} {A A' : List Value} (h : i4 D A A') (d : Option Tmp) (v : Value) : i4 (SB D d) (lV A d v) (lV A' d v) := by
 refine ⟨by rw [nR, nR, h.1], fun t ht => ?_⟩
 by_cases hd : d = some t
 ·subst hd; rw [DG, DG, h.1]
 ·rw [wU hd, wU hd]; exact h.2 t (anN ht hd)
theorem ag9 {ops : Array Oper} : ∀ {l : List Oper} {D D' : Nat}, pK ops l D = some D' → ∀ t, D.testBit t = false → D'.testBit t = false := by
 intro l
 induction l with
 | nil => intro D D' h t ht; simp only [pK] at h; cases h; exact ht
 | cons o l ih =>
  intro D D' h t ht;simp only [pK] at h
  split at h
  ·exact ih h t (anM ht)
  ·cases h
theorem L6 : ∀ {c : Code} {D D' : Nat}, uc c D = some D' → ∀ t, D.testBit t = false → D'.testBit t = false := by
 intro c
 induction c with
 | skip => intro D D' h t ht; simp only [uc] at h; cases h; exact ht
 | label l => intro D D' h t ht; simp only [uc] at h; cases h; exact ht
 | region id ops draw => intro D D' h; simp only [uc] at h; exact ag9 h
 | seq x y ihx ihy =>
  intro D D' h t ht;simp only [uc] at h
  split at h
  ·rename_i D1 h1
   split at h
   ·rename_i D2 h2; cases h; exact ihy h2 t (ihx h1 t ht)
   ·cases h
  ·cases h
 | cond c x y ihx ihy =>
  intro D D' h t ht;simp only [uc] at h
  split at h
  ·split at h
   ·rename_i D1 D2 h1 h2; cases h
    rw [Nat.testBit_or, ihx h1 t ht, ihy h2 t ht]; rfl
   ·cases h
  ·cases h
 | block id x ih => intro D D' h t ht; simp only [uc] at h; split at h <;> cases h; exact ht
 | loop x ih => intro D D' h t ht; simp only [uc] at h; split at h <;> cases h; exact ht
 | exit id => intro D D' h t ht; simp only [uc] at h; cases h; simp
 | ret => intro D D' h t ht; simp only [uc] at h; cases h; simp
 | rangeFunc => intro D D' h; simp [uc] at h
 | scope => intro D D' h; simp [uc] at h
 | goto => intro D D' h; simp [uc] at h
 | refuse => intro D D' h; simp [uc] at h
inductive Both (D : Nat) : Option (List Value × AH) → Option (List Value × AH) → Prop
 | no : Both D none none
 | yes {A A' : List Value} (H : AH) (h : i4 D A A') : Both D (some (A, H)) (some (A', H))
theorem Z4 {ops : Array Oper} {o : Oper} {D : Nat} (ho : vS D ops o = true) {A A' : List Value} (h : i4 D A A') (H : AH) : Both (SB D o.dst) (gG P G call ops o A H) (gG P G call ops o A' H) := by
 unfold vS at ho;simp only [Bool.and_eq_true] at ho;have hev : ∀ x ∈ o.op.operands.toList, fX A x = fX A' x := fun x hx => h.ev (List.all_eq_true.1 ho.1 x hx)
 have hw : Region.wanted o (dO ops A) = Region.wanted o (dO ops A') := by
  unfold Region.wanted
  cases hg : o.guard with
  | none => rfl
  | some g =>
   obtain ⟨g, want⟩ := g;rw [hg] at ho
   have hy : dO ops A g = dO ops A' g := by
    unfold dO
    cases hd : (ops[g]?).bind (·.dst) with
    | none => rfl
    | some t =>
     have h2 := ho.2;simp only [hd, Bool.not_eq_true'] at h2;simp only [bJ];rw [h.2 t h2]
   simp only [hy]
 unfold gG;rw [hw, o7 hev H]
 split
 ·split
  ·cases fe P call (fX A') o H with
   | none => exact .no
   | some r => exact .yes r.2 (h.put o.dst r.1)
  ·exact .yes H (h.put o.dst undef)
 ·exact .no
theorem yw {ops : Array Oper} : ∀ {l : List Oper} {D D' : Nat}, pK ops l D = some D' → ∀ {A A' : List Value}, i4 D A A' → ∀ H, Both D' (dk P G call ops l A H) (dk P G call ops l A' H) := by
 intro l
 induction l with
 | nil => intro D D' h A A' hA H; simp only [pK] at h; cases h; exact .yes H hA
 | cons o l ih =>
  intro D D' h A A' hA H;simp only [pK] at h
  split at h
  ·rename_i ho
   simp only [dk];have := Z4 (P := P) (G := G) (call := call) ho hA H
   generalize gG P G call ops o A H = x at this
   generalize gG P G call ops o A' H = y at this
   cases this with
   | no => exact .no
   | yes H1 hA1 => exact ih h hA1 H1
  ·cases h
theorem Rj {ops : Array Oper} : ∀ {l : List Oper} {D D' : Nat}, pK ops l D = some D' → ∀ i, ∃ Di, pK ops (l.take i) D = some Di ∧ ∀ o, l[i]? = some o → vS Di ops o = true := by
 intro l
 induction l with
 | nil => intro D D' h i; exact ⟨D, by cases i <;> rfl, fun o ho => by simp at ho⟩
 | cons o l ih =>
  intro D D' h i;simp only [pK] at h
  split at h
  ·rename_i ho
   cases i with
   | zero => exact ⟨D, rfl, fun o' ho' => by simp at ho'; subst ho'; exact ho⟩
   | succ i =>
    obtain ⟨Di, h1, h2⟩ := ih h i;refine ⟨Di, ?_, fun o' ho' => h2 o' (by simpa using ho')⟩;simp only [List.take_succ_cons, pK, ho];exact h1
  ·cases h
theorem WS {ops : Array Oper} {D D' : Nat} (h : pK ops ops.toList D = some D') {A A' : List Value} (hA : i4 D A A') (H : AH) : Both D' (nQ P G call ops A H) (nQ P G call ops A' H) := by
 unfold nQ
 split
 ·exact .no
 ·split
  ·exact yw h hA H
  ·rename_i p ps hp
   have hb := yw (P := P) (G := G) (call := call) h hA H
   have key : dk P G call ops ops.toList A H ≠ none → ((∀ q ∈ p :: ps, j6 P (jY P G call ops A H) ops q) ↔ ∀ q ∈ p :: ps, j6 P (jY P G call ops A' H) ops q) := by
    intro hne
    have hst : ∀ i, ∃ Di, i4 Di (jY P G call ops A H i).1 (jY P G call ops A' H i).1 ∧ (jY P G call ops A H i).2 = (jY P G call ops A' H i).2 ∧ ∀ o, ops[i]? = some o → vS Di ops o = true := by
     intro i;obtain ⟨Di, h1, h2⟩ := Rj h i;have hbi := yw (P := P) (G := G) (call := call) h1 hA H
     cases hx : dk P G call ops ops.toList A H with
     | none => exact absurd hx hne
     | some r =>
      have h3 := zC hx i;rw [h3] at hbi;unfold jY at hbi ⊢;rw [h3] at hbi ⊢
      generalize dk P G call ops (ops.toList.take i) A' H = y at hbi
      simp only [Option.getD_some] at hbi ⊢
      generalize hz : jY P G call ops A H i = z at hbi
      unfold jY at hz;rw [h3] at hz;simp only [Option.getD_some] at hz
      cases hbi with
      | yes H1 hA1 =>
       exact ⟨Di, hA1, rfl, fun o ho => h2 o (by simpa using ho)⟩
    have one : ∀ q, j6 P (jY P G call ops A H) ops q ↔ j6 P (jY P G call ops A' H) ops q := by
     intro q;unfold j6;obtain ⟨D1, a1, e1, o1⟩ := hst q.1;obtain ⟨D2, a2, e2, o2⟩ := hst (if q.2 < q.1 then q.2 else q.2 + 1)
     constructor
     ·intro hl o ho
      have hev : ∀ x ∈ o.op.operands.toList, fX (jY P G call ops A H q.1).1 x = fX (jY P G call ops A' H q.1).1 x := fun x hx => a1.ev (by
       have := o1 o ho;unfold vS at this;simp only [Bool.and_eq_true] at this
       exact List.all_eq_true.1 this.1 x hx)
      have := hl o ho;rw [tD hev, tD hev, e1, e2] at this;exact this
     ·intro hl o ho
      have hev : ∀ x ∈ o.op.operands.toList, fX (jY P G call ops A H q.1).1 x = fX (jY P G call ops A' H q.1).1 x := fun x hx => a1.ev (by
       have := o1 o ho;unfold vS at this;simp only [Bool.and_eq_true] at this
       exact List.all_eq_true.1 this.1 x hx)
      rw [tD hev, tD hev, e1, e2];exact hl o ho
    exact ⟨fun hl q hq => (one q).1 (hl q hq), fun hl q hq => (one q).2 (hl q hq)⟩
   have hn : dk P G call ops ops.toList A H = none → dk P G call ops ops.toList A' H = none := by
    intro e; rw [e] at hb; generalize dk P G call ops ops.toList A' H = y at hb; cases hb; rfl
   by_cases hne : dk P G call ops ops.toList A H = none
   ·rw [hne, hn hne]
    unfold Nr
    have : ∀ (c : Prop) [Decidable c], (if c then (none : Option (List Value × AH)) else none) = none := fun c _ => by split <;> rfl
    rw [this, this]; exact .no
   ·unfold Nr
    by_cases hc : ∀ q ∈ p :: ps, j6 P (jY P G call ops A H) ops q
    ·rw [if_pos hc, if_pos ((key hne).1 hc)]; exact hb
    ·rw [if_neg hc, if_neg (fun h => hc ((key hne).2 h))]; exact .no
inductive BothR (D D' : Nat) : Option AR → Option AR → Prop
 | no : BothR D D' none none
 | normal {A A' : List Value} (H : AH) (h : i4 D' A A') : BothR D D' (some (.normal, A, H)) (some (.normal, A', H))
 | exit (i : Nat) {A A' : List Value} (H : AH) (h : i4 D A A') : BothR D D' (some (.exit i, A, H)) (some (.exit i, A', H))
 | ret {A A' : List Value} (H : AH) (h : i4 D A A') : BothR D D' (some (.ret, A, H)) (some (.ret, A', H))
theorem IK : ∀ {c : Code} {D D' : Nat}, uc c D = some D' → ∀ {A A' : List Value}, i4 D A A' → ∀ H, BothR D D' (aX P G call c A H) (aX P G call c A' H) := by
 intro c
 induction c with
 | skip => intro D D' h A A' hA H; simp only [uc] at h; cases h; exact .normal H hA
 | label l => intro D D' h A A' hA H; simp only [uc] at h; cases h; exact .normal H hA
 | exit id => intro D D' h A A' hA H; exact .exit id H hA
 | ret => intro D D' h A A' hA H; exact .ret H hA
 | region id ops draw =>
  intro D D' h A A' hA H;simp only [uc] at h;simp only [aX]
  have hb : Both D' (gm P G call ops draw A H) (gm P G call ops draw A' H) := by
   cases draw with
   | true => exact WS h hA H
   | false => exact yw h hA H
  generalize gm P G call ops draw A H = x at hb
  generalize gm P G call ops draw A' H = y at hb
  cases hb with
  | no => exact .no
  | yes H1 hA1 => exact .normal H1 hA1
 | seq x y ihx ihy =>
  intro D D' h A A' hA H;simp only [uc] at h
  split at h
  ·rename_i D1 h1
   split at h
   ·rename_i D2 h2
    cases h;simp only [aX];have hb := ihx h1 hA H
    generalize aX P G call x A H = u at hb
    generalize aX P G call x A' H = v at hb
    cases hb with
    | no => exact .no
    | normal H1 hA1 =>
     have hb2 := ihy h2 hA1 H1;simp only [bJ]
     rename_i A1 A1'
     generalize aX P G call y A1 H1 = u at hb2
     generalize aX P G call y A1' H1 = v at hb2
     cases hb2 with
     | no => exact .no
     | normal H2 hA2 => exact .normal H2 hA2
     | exit i H2 hA2 => exact .exit i H2 (hA2.mono (fun t ht => L6 h1 t ht))
     | ret H2 hA2 => exact .ret H2 (hA2.mono (fun t ht => L6 h1 t ht))
    | exit i H1 hA1 => exact .exit i H1 hA1
    | ret H1 hA1 => exact .ret H1 hA1
   ·cases h
  ·cases h
 | cond c x y ihx ihy =>
  intro D D' h A A' hA H;simp only [uc] at h
  split at h
  ·rename_i hc
   split at h
   ·rename_i D1 D2 h1 h2
    cases h;simp only [aX];rw [hA.ev hc]
    have m1 : ∀ t, (D1 ||| D2).testBit t = false → D1.testBit t = false := fun t ht => by rw [Nat.testBit_or, Bool.or_eq_false_iff] at ht; exact ht.1
    have m2 : ∀ t, (D1 ||| D2).testBit t = false → D2.testBit t = false := fun t ht => by rw [Nat.testBit_or, Bool.or_eq_false_iff] at ht; exact ht.2
    generalize fX A' c = v
    cases v with
    | bool b =>
     cases b with
     | true =>
      have hb := ihx h1 hA H;simp only
      generalize aX P G call x A H = u at hb
      generalize aX P G call x A' H = v at hb
      cases hb with
      | no => exact .no
      | normal H1 hA1 => exact .normal H1 (hA1.mono m1)
      | exit i H1 hA1 => exact .exit i H1 hA1
      | ret H1 hA1 => exact .ret H1 hA1
     | false =>
      have hb := ihy h2 hA H;simp only
      generalize aX P G call y A H = u at hb
      generalize aX P G call y A' H = v at hb
      cases hb with
      | no => exact .no
      | normal H1 hA1 => exact .normal H1 (hA1.mono m2)
      | exit i H1 hA1 => exact .exit i H1 hA1
      | ret H1 hA1 => exact .ret H1 hA1
    | _ => exact .no
   ·cases h
  ·cases h
 | block id x ih =>
  intro D D' h A A' hA H;simp only [uc] at h
  split at h <;> cases h
  rename_i D1 h1
  simp only [aX];have hb := ih h1 hA H
  generalize aX P G call x A H = u at hb
  generalize aX P G call x A' H = v at hb
  cases hb with
  | no => exact .no
  | normal H1 hA1 => exact .normal H1 (hA1.mono (fun t ht => L6 h1 t ht))
  | exit i H1 hA1 =>
   simp only [fp]
   split
   ·exact .normal H1 hA1
   ·exact .exit i H1 hA1
  | ret H1 hA1 => exact .ret H1 hA1
 | loop x ih =>
  intro D D' h A A' hA H;simp only [uc] at h
  split at h <;> cases h
  rename_i D1 h1
  simp only [aX]
  have it : ∀ n {A A' : List Value} (H : AH), i4 D A A' → BothR D D (fC (aX P G call x) n A H) (fC (aX P G call x) n A' H) := by
   intro n
   induction n with
   | zero => intro A A' H _; exact .no
   | succ n ihn =>
    intro A A' H hA;simp only [fC];have hb := ih h1 hA H
    generalize aX P G call x A H = u at hb
    generalize aX P G call x A' H = v at hb
    cases hb with
    | no => exact .no
    | normal H1 hA1 => exact ihn H1 (hA1.mono (fun t ht => L6 h1 t ht))
    | exit i H1 hA1 => exact .exit i H1 hA1
    | ret H1 hA1 => exact .ret H1 hA1
  cases hl : qP (aX P G call x) A H with
  | some r =>
   obtain ⟨n, hn⟩ := dj.1 hl;have hb := it n H hA;rw [hn] at hb
   cases hm : fC (aX P G call x) n A' H with
   | none => rw [hm] at hb; cases hb
   | some r' =>
    rw [dj.2 ⟨n, hm⟩];rw [hm] at hb;exact hb
  | none =>
   cases hl' : qP (aX P G call x) A' H with
   | none => exact .no
   | some r' =>
    obtain ⟨n, hn⟩ := dj.1 hl';have hb := it n H hA;rw [hn] at hb
    cases hm : fC (aX P G call x) n A H with
    | none => rw [hm] at hb; cases hb
    | some r => rw [dj.2 ⟨n, hm⟩] at hl; cases hl
 | rangeFunc => intro D D' h; simp [uc] at h
 | scope => intro D D' h; simp [uc] at h
 | goto => intro D D' h; simp [uc] at h
 | refuse => intro D D' h; simp [uc] at h
def Iw (D D' : Nat) : Bool := D ||| D' == D'
theorem Wb {D D' : Nat} (h : Iw D D' = true) : ∀ t, D'.testBit t = false → D.testBit t = false := by
 intro t ht;unfold Iw at h
 have e : D ||| D' = D' := by simpa using h
 rw [← e, Nat.testBit_or, Bool.or_eq_false_iff] at ht;exact ht.1
theorem ar.le {D D' : Nat} {k : List Value → AH → Option R} (h : ar D' k) (hs : Iw D D' = true) : ar D k := fun A A' H hA => h A A' H (hA.mono (Wb hs))
def Ay (c : Code) (D D' : Nat) : Bool := match uc c D with
 | some D1 => Iw D1 D'
 | none => false
theorem ZR {c : Code} {D D' : Nat} {kn : List Value → AH → Option R} {kx : Nat → List Value → AH → Option R} {kr : List Value → AH → Option R} (h : Ay c D D' = true) (hn : ar D' kn) (hx : ∀ i, ar D (kx i)) (hr : ar D kr) :
 ar D (fun A H => be P G call c A H kn kx kr) := by
 intro A A' H hA;unfold Ay at h
 split at h
 ·rename_i D1 h1
  simp only;rw [w4, w4];have hb := IK (P := P) (G := G) (call := call) h1 hA H
  generalize aX P G call c A H = u at hb
  generalize aX P G call c A' H = v at hb
  cases hb with
  | no => rfl
  | normal H1 hA1 => exact hn _ _ H1 (hA1.mono (Wb h))
  | exit i H1 hA1 => exact hx i _ _ H1 hA1
  | ret H1 hA1 => exact hr _ _ H1 hA1
 ·cases h
theorem ZS {c : Code} {D : Nat} {kx : Nat → List Value → AH → Option R} {kr : List Value → AH → Option R} (h : Ay c D D = true) (hx : ∀ i, ar D (kx i)) (hr : ar D kr) :
 ar D (fun A H => jh P G call c A H kx kr) := by
 intro A A' H hA;unfold Ay at h
 split at h
 ·rename_i D1 h1
  have hb := IK (P := P) (G := G) (call := call) (c := .loop c) (D := D) (D' := D) (by simp only [uc, h1]) hA H;simp only [aX] at hb;simp only [jh]
  generalize qP (aX P G call c) A H = u at hb
  generalize qP (aX P G call c) A' H = v at hb
  cases hb with
  | no => rfl
  | normal H1 hA1 => rfl
  | exit i H1 hA1 => exact hx i _ _ H1 hA1
  | ret H1 hA1 => exact hr _ _ H1 hA1
 ·cases h
def VA (D : Nat) (rs : List ResultVar) : Bool := rs.all fun r => match r with
 | .tmp t => !D.testBit t
 | .cell a _ => !D.testBit a
theorem ZT {D : Nat} : ∀ {rs : List ResultVar} (_ : VA D rs = true) (k : List Value → AH → Option R), ar D (fun A H => uI P A H rs fun vs => k vs H) := by
 intro rs
 induction rs with
 | nil => intro _ k A A' H hA; rfl
 | cons r rs ih =>
  intro h k A A' H hA;unfold VA at h;simp only [List.all_cons, Bool.and_eq_true] at h
  cases r with
  | tmp t =>
   simp only [Bool.not_eq_true'] at h;simp only [uI];rw [hA.2 t h.1];exact ih h.2 (fun vs H => k ((A'[t]?.getD undef) :: vs) H) A A' H hA
  | cell a t =>
   simp only [Bool.not_eq_true'] at h;simp only [uI];rw [hA.2 a h.1, OY, OY]
   congr 1
   funext g
   cases g <;> (simp only; congr 1; funext v; exact ih h.2 (fun vs H => k (v :: vs) H) A A' H hA)
theorem aiK {D : Nat} {rs : List ResultVar} (h : VA D rs = true) : ar D (dM P rs) := ZT h fun vs H => some (tup vs, H)
theorem ZU {D : Nat} : ar D (fun (_ : List Value) (_ : AH) => (none : Option R)) := fun _ _ _ _ => rfl
theorem R8 {D id : Nat} {kn : List Value → AH → Option R} {kx : Nat → List Value → AH → Option R} (hn : ar D kn) (hx : ∀ i, ar D (kx i)) : ∀ i, ar D (fun A H => if i = id then kn A H else kx i A H) := by
 intro i A A' H hA;simp only
 split
 ·exact hn _ _ _ hA
 ·exact hx i _ _ _ hA
theorem G1 {D : Nat} {n : List Value → AH → Option R} (h : ar D n) : ar D (fun A H => n (clear D A) H) := by
 intro A A' H hA;simp only;rw [← h A (clear D A) H (i7 D A), ← h A' (clear D A') H (i7 D A')];exact h A A' H hA
variable {A : List Value} {H : AH} {kn : List Value → AH → Option R} {kx : Nat → List Value → AH → Option R} {kr : List Value → AH → Option R}
theorem akW {c x y : Code} {e : Operand} (h : c = .cond e x y) : be P G call c A H kn kx kr = av (fX A e) (be P G call x A H kn kx kr) (be P G call y A H kn kx kr) := by subst h; rfl
theorem Nm {c x : Code} {id : Nat} (h : c = .block id x) {D : Nat} {n : Nat → List Value → AH → Option R} (hn : n = fun i A H => if i = id then kn A H else kx i A H) (hD : ∀ i, ar D (n i)) :
 be P G call c A H kn kx kr = be P G call x A H kn (fun i A H => n i (clear D A) H) kr := by
 subst h
 have e : (fun i A H => n i (clear D A) H) = n := by
  funext i A H
  exact (hD i A (clear D A) H (i7 D A)).symm
 rw [e, hn]; try rfl
theorem amN {c x : Code} (h : c = .loop x) : be P G call c A H kn kx kr = jh P G call x A H kx kr := by subst h; rfl
theorem Rc {x : Code} {D : Nat} {n : List Value → AH → Option R} (hn : n = fun A H => jh P G call x A H kx kr) (hD : ar D n) : jh P G call x A H kx kr = n (clear D A) H := by
 have := hD A (clear D A) H (i7 D A);rw [← this, hn]
theorem Rb {x : Code} {D : Nat} {n : List Value → AH → Option R} (hn : n = fun A H => jh P G call x A H kx kr) (hD : ar D n) :
 jh P G call x A H kx kr = be P G call x A H (fun A H => n (clear D A) H) kx kr := by
 have e : (fun A H => n (clear D A) H) = n := by
  funext A H
  exact (hD A (clear D A) H (i7 D A)).symm
 rw [e, hn]; exact abX ..
def Code.pre : Nat → Code → Code
 | 0, .seq x _ => x
 | k + 1, .seq x y => .seq x (Code.pre k y)
 | _, c => c
def Code.post : Nat → Code → Code
 | 0, .seq _ y => y
 | k + 1, .seq _ y => Code.post k y
 | _, _ => .skip
theorem ap0 : ∀ (k : Nat) (c : Code) (A : List Value) (H : AH), be P G call c A H kn kx kr = be P G call (Code.pre k c) A H (fun A H => be P G call (Code.post k c) A H kn kx kr) kx kr := by
 intro k
 induction k with
 | zero => intro c A H; cases c <;> rfl
 | succ k ih =>
  intro c A H
  cases c with
  | seq x y =>
   have e : (fun A H => be P G call y A H kn kx kr) = fun A H => be P G call (Code.pre k y) A H (fun A H => be P G call (Code.post k y) A H kn kx kr) kx kr := by
    funext A H; exact ih y A H
   show be P G call x A H (fun A H => be P G call y A H kn kx kr) kx kr = _;rw [e]; rfl
  | _ => rfl
variable {l T : Option R}
theorem ap1 {c : Code} {k D : Nat} {n : List Value → AH → Option R} (h0 : l = be P G call c A H kn kx kr) (hn : n = fun A H => be P G call (Code.post k c) A H kn kx kr) (hD : ar D n)
 (h1 : be P G call (Code.pre k c) A H (fun A H => n (clear D A) H) kx kr = T) : l = T := by
 have e : (fun A H => n (clear D A) H) = n := by
  funext A H
  exact (hD A (clear D A) H (i7 D A)).symm
 rw [e, hn] at h1;exact h0.trans ((ap0 k c A H).trans h1)
theorem ab7 {v v' : Value} {x x' y y' : Option R} (h : v = v') (hx : x = x') (hy : y = y') : av v x y = av v' x' y' := by rw [h, hx, hy]
theorem akX {c x y : Code} {e : Operand} (h0 : l = be P G call c A H kn kx kr) (h : c = .cond e x y) (h1 : av (fX A e) (be P G call x A H kn kx kr) (be P G call y A H kn kx kr) = T) : l = T := h0.trans ((akW h).trans h1)
theorem abU {c x : Code} {id D : Nat} {n : Nat → List Value → AH → Option R} (h0 : l = be P G call c A H kn kx kr) (h : c = .block id x) (hn : n = fun i A H => if i = id then kn A H else kx i A H) (hD : ∀ i, ar D (n i))
 (h1 : be P G call x A H kn (fun i A H => n i (clear D A) H) kr = T) : l = T := h0.trans ((Nm h hn hD).trans h1)
theorem amO {c x : Code} {D : Nat} {n : List Value → AH → Option R} (h0 : l = be P G call c A H kn kx kr) (h : c = .loop x) (hn : n = fun A H => jh P G call x A H kx kr) (hD : ar D n) (h1 : n (clear D A) H = T) : l = T :=
 h0.trans ((amN h).trans ((Rc hn hD).trans h1))
theorem amP {x : Code} {D : Nat} {n : List Value → AH → Option R} (h0 : l = jh P G call x A H kx kr) (hn : n = fun A H => jh P G call x A H kx kr) (hD : ar D n)
 (h1 : be P G call x A H (fun A H => n (clear D A) H) kx kr = T) : l = T := h0.trans ((Rb hn hD).trans h1)
end
abbrev OV := Option (Value × AH)
abbrev u : Value := undef
abbrev KK := List Value → AH → OV
abbrev KX := Nat → List Value → AH → OV
noncomputable abbrev CK (P : Program) (G : List Nat) (call : bG) (c : Code) (kn : KK) (kx : KX) (kr : KK) : KK := fun A H => be P G call c A H kn kx kr
noncomputable abbrev CL (P : Program) (G : List Nat) (call : bG) (c : Code) (kx : KX) (kr : KK) : KK := fun A H => jh P G call c A H kx kr
abbrev BX (id : Nat) (kn : KK) (kx : KX) : KX := fun i A H => if i = id then kn A H else kx i A H
abbrev eG (D : Nat) (n : KK) : KK := fun A H => n (clear D A) H
abbrev qQ (D : Nat) (n : KX) : KX := fun i A H => n i (clear D A) H
def bA : KX := fun _ _ _ => none
def arK : Nat := 2 ^ 4096 - 1
def ls (l : List Value) (n : Nat) : List Value := l ++ List.replicate n u
section
variable {P : Program} {G : List Nat} {call : bG} {A : List Value} {H : AH} {kn : KK} {kx : KX} {kr : KK} {l T : OV}
theorem aB : ∀ i, ar arK (bA i) := fun _ => ZU
theorem rf {rs : List ResultVar} {D : Nat} (h : VA D rs = true := by kernel_rfl) : ar D (dM P rs) := aiK h
theorem rc {c : Code} {D Dn Dx Dr : Nat} (hn : ar Dn kn) (hx : ∀ i, ar Dx (kx i)) (hr : ar Dr kr) (h : (Ay c D Dn && (Iw D Dx && Iw D Dr)) = true := by kernel_rfl) : ar D (CK P G call c kn kx kr) := by
 simp only [Bool.and_eq_true] at h;exact ZR h.1 hn (fun i => (hx i).le h.2.1) (hr.le h.2.2)
theorem rl {c : Code} {D Dx Dr : Nat} (hx : ∀ i, ar Dx (kx i)) (hr : ar Dr kr) (h : (Ay c D D && (Iw D Dx && Iw D Dr)) = true := by kernel_rfl) : ar D (CL P G call c kx kr) := by
 simp only [Bool.and_eq_true] at h;exact ZS h.1 (fun i => (hx i).le h.2.1) (hr.le h.2.2)
theorem rb {D id Dn Dx : Nat} (hn : ar Dn kn) (hx : ∀ i, ar Dx (kx i)) (h : (Iw D Dn && Iw D Dx) = true := by kernel_rfl) : ∀ i, ar D (BX id kn kx i) := by
 simp only [Bool.and_eq_true] at h;exact R8 (hn.le h.1) (fun i => (hx i).le h.2)
theorem cd {D : Nat} {n : KK} (h : ar D n) : ar D (eG D n) := G1 h
theorem cx {D : Nat} {n : KX} (h : ∀ i, ar D (n i)) : ∀ i, ar D (qQ D n i) := fun i => G1 (h i)
theorem pt {c : Code} {D : Nat} {n : KK} (h0 : l = be P G call c A H kn kx kr) (k : Nat) (hD : ar D n) (h1 : be P G call (Code.pre k c) A H (eG D n) kx kr = T)
 (hn : n = fun A H => be P G call (Code.post k c) A H kn kx kr := by kernel_rfl) : l = T := ap1 h0 hn hD h1
theorem ct {c : Code} (h0 : l = be P G call c A H kn kx kr) (x y : Code) (e : Operand) {v : Value} {X Y : OV} (hx : be P G call x A H kn kx kr = X) (hy : be P G call y A H kn kx kr = Y)
 (h : c = .cond e x y := by kernel_rfl) (he : fX A e = v := by kernel_rfl) : l = av v X Y := akX h0 h (ab7 he hx hy)
theorem bt {c : Code} {D : Nat} {n : KX} (h0 : l = be P G call c A H kn kx kr) (x : Code) (id : Nat) (hD : ∀ i, ar D (n i)) (h1 : be P G call x A H kn (qQ D n) kr = T)
 (h : c = .block id x := by kernel_rfl) (hn : n = fun i A H => if i = id then kn A H else kx i A H := by kernel_rfl) : l = T := abU h0 h hn hD h1
theorem li {c : Code} {D : Nat} {n : KK} (h0 : l = be P G call c A H kn kx kr) (x : Code) (hD : ar D n) (h1 : n (clear D A) H = T) (h : c = .loop x := by kernel_rfl)
 (hn : n = fun A H => jh P G call x A H kx kr := by kernel_rfl) : l = T := amO h0 h hn hD h1
theorem CD {x : Code} {D : Nat} {n : KK} (h0 : l = jh P G call x A H kx kr) (hD : ar D n) (h1 : be P G call x A H (eG D n) kx kr = T)
 (hn : n = fun A H => jh P G call x A H kx kr := by kernel_rfl) : l = T := amP h0 hn hD h1
theorem Pm {id : Nat} (h0 : l = BX id kn kx id A H) (h1 : kn A H = T) : l = T := by rw [h0, ← h1]; simp [BX]
theorem fo {f : Nat} {fn : Func} (hf : P.funcs[f]? = some fn) {args : List Value} {t : OV} {r : Value × AH} (e : SZ P G (aF P G) fn.ntmps fn.results.toList (bH fn) args H = t) (h : t = some r)
 (hb : fn.body.isSome = true := by kernel_rfl) (hn : (fn.name == "runtime.NumGoroutine") = false := by kernel_rfl) (hd : lC (bH fn) = none := by kernel_rfl) : aF P G f args H = some r := Pu hf hb hn hd (e.trans h)
end
end Go.Proofs.YtghoamdlcjdfjaaGreatDoor.Gst
namespace Go.Proofs.YtghoamdlcjdfjaaGreatDoor.Gst
open Go Go.RowKit Go.ChangeShapes
set_option linter.unusedSimpArgs false
def f7 (H H' : AH) : Prop := H.size ≤ H'.size ∧ ∀ b, b < H.size → H'.get b = H.get b
theorem f7.refl (H : AH) : f7 H H := ⟨bv _, fun _ _ => rfl⟩
theorem f7.trans {A B C : AH} (h : f7 A B) (k : f7 B C) : f7 A C := ⟨eA h.1 k.1, fun b hb => by rw [k.2 b (by have := h.1; omega), h.2 b hb]⟩
theorem f7.push (H : AH) (o : AObj) : f7 H (H.push o) := ⟨by rw [AH.size_push]; omega, fun b hb => AH.get_push_old hb⟩
theorem f7.get {H H' : AH} (h : f7 H H') {b : Nat} {o : AObj} (hb : H.get b = some o) : H'.get b = some o := by rw [h.2 b (AH.lt_of_get hb)]; exact hb
inductive Ty where
 | int (k : IntKind)
 | bool
 | slice (t : Ty)
 | unit
 | pair (a b : Ty)
def Ty.w : Ty → Nat
 | .int _ | .bool | .slice _ => 1
 | .unit => 0
 | .pair a b => a.w + b.w
abbrev Ty.I : Ty → Type
 | .int _ => Int
 | .bool => Bool
 | .slice t => List t.I
 | .unit => Unit
 | .pair a b => a.I × b.I
inductive lB {α : Type} (R : α → List Value → Prop) : List α → List Value → Prop
 | nil : lB R [] []
 | cons {x : α} {l : List α} {c cs : List Value} (h : R x c) (k : lB R l cs) : lB R (x :: l) (c ++ cs)
def Abs (H : AH) : (t : Ty) → t.I → List Value → Prop
 | .int k, n, cs => cs = [.int k n] ∧ (Lit.int k n).wf = true
 | .bool, b, cs => cs = [.bool b]
 | .unit, _, cs => cs = []
 | .pair a b, x, cs => ∃ c1 c2, cs = c1 ++ c2 ∧ Abs H a x.1 c1 ∧ Abs H b x.2 c2
 | .slice t, l, cs => (l = [] ∧ cs = [.slice none 0 0]) ∨ (l = [] ∧ ∃ b, cs = [.slice (some ⟨b, 0, none⟩) 0 0]) ∨
  ∃ b row, H.get b = some (.cells true row) ∧ cs = [.slice (some ⟨b, 0, none⟩) l.length t.w] ∧ lB (Abs H t) l row ∧ l.length ≤ maxLen
theorem lB.mono {α : Type} {R S : α → List Value → Prop} (h : ∀ x c, R x c → S x c) {l : List α} {cs : List Value} (k : lB R l cs) : lB S l cs := by
 induction k with
 | nil => exact .nil
 | cons h1 _ ih => exact .cons (h _ _ h1) ih
theorem Abs.keep {H H' : AH} (k : f7 H H') : ∀ (t : Ty) (x : t.I) (cs : List Value), Abs H t x cs → Abs H' t x cs := by
 intro t
 induction t with
 | int k => intro x cs h; exact h
 | bool => intro x cs h; exact h
 | unit => intro x cs h; exact h
 | pair a b iha ihb =>
  intro x cs h;obtain ⟨c1, c2, e, h1, h2⟩ := h;exact ⟨c1, c2, e, iha _ _ h1, ihb _ _ h2⟩
 | slice t ih =>
  intro x cs h
  rcases h with h | h | ⟨b, row, h1, h2, h3, h4⟩
  ·exact .inl h
  ·exact .inr (.inl h)
  ·exact .inr (.inr ⟨b, row, k.get h1, h2, h3.mono ih, h4⟩)
theorem lB.length {α : Type} {R : α → List Value → Prop} {n : Nat} (h : ∀ x c, R x c → c.length = n) {l : List α} {cs : List Value} (k : lB R l cs) : cs.length = l.length * n := by
 induction k with
 | nil => simp
 | cons h1 _ ih => rw [qr, h _ _ h1, ih, List.length_cons, Nat.add_mul]; omega
theorem Abs.length {H : AH} : ∀ (t : Ty) (x : t.I) (cs : List Value), Abs H t x cs → cs.length = t.w := by
 intro t
 induction t with
 | int k => intro x cs h; rw [h.1]; rfl
 | bool => intro x cs h; have h : cs = _ := h; rw [h]; rfl
 | unit => intro x cs h; have h : cs = _ := h; rw [h]; rfl
 | pair a b iha ihb =>
  intro x cs h;obtain ⟨c1, c2, e, h1, h2⟩ := h;rw [e, qr, iha _ _ h1, ihb _ _ h2]; rfl
 | slice t ih =>
  intro x cs h
  rcases h with h | ⟨_, b, h⟩ | ⟨b, row, h1, h2, h3, h4⟩
  ·rw [h.2]; rfl
  ·rw [h]; rfl
  ·rw [h2]; rfl
def Ei : (t : Ty) → t.I → Prop
 | .int _, _ => True
 | .bool, _ => True
 | .unit, _ => True
 | .pair a b, x => Ei a x.1 ∧ Ei b x.2
 | .slice t, l => l.length ≤ reachBytes ∧ ∀ x ∈ l, Ei t x
def wOK {Hd : Type} (P : Program) (t : TypeId) (d : DataW Hd) : Prop := ∀ n ∈ DataW.weights P t d, n ≤ reachBytes
theorem tv {Hd : Type} {P : Program} {e : TypeId} {d : DataW Hd} {n : Nat} : ∀ {l : List (DataW Hd)}, d ∈ l → n ∈ DataW.weights P e d → n ∈ DataW.weightsAll P e l := by
 intro l
 induction l with
 | nil => intro h; cases h
 | cons x l ih =>
  intro h hn;rw [DataW.weightsAll, List.mem_append]
  rcases List.mem_cons.1 h with rfl | h
  ·exact .inl hn
  ·exact .inr (ih h hn)
theorem DE {Hd : Type} {P : Program} {n : Nat} : ∀ {ts : List TypeId} {ds : List (DataW Hd)} {i : Nat} {t : TypeId} {d : DataW Hd}, ts[i]? = some t → ds[i]? = some d → n ∈ DataW.weights P t d → n ∈ DataW.weightsEach P ts ds := by
 intro ts
 induction ts with
 | nil => intro ds i t d h; simp at h
 | cons t0 ts ih =>
  intro ds i t d h1 h2 hn
  cases ds with
  | nil => simp at h2
  | cons d0 ds =>
   rw [DataW.weightsEach, List.mem_append]
   cases i with
   | zero =>
    simp at h1 h2;subst h1; subst h2;exact .inl hn
   | succ i => exact .inr (ih (by simpa using h1) (by simpa using h2) hn)
def rC (P : Program) : Ty → (TypeId → Bool) × (List Field → Nat → Bool)
 | .int k => (fun t => match P.underlying t with | some (.int k') => k' == k && P.cellsOf t == 1 | _ => false, fun _ _ => false)
 | .bool => (fun t => match P.underlying t with | some .bool => P.cellsOf t == 1 | _ => false, fun _ _ => false)
 | .slice ty => (fun t => match P.underlying t with | some (.slice e) => (rC P ty).1 e && P.cellsOf e == ty.w && decide (0 < ty.w ∧ 0 < P.bytesOf e) && P.cellsOf t == 1 | _ => false, fun _ _ => false)
 | .unit => (fun _ => false, fun fs _ => fs.isEmpty)
 | .pair a b =>
  let F : List Field → Nat → Bool := fun fs off => match fs with
   | f :: fs => f.offset == off && (rC P a).1 f.type && P.cellsOf f.type == a.w && (rC P b).2 fs (off + a.w)
   | [] => false
  (fun t => match P.underlying t with | some (.struct fs) => P.cellsOf t == a.w + b.w && F fs.toList 0 | _ => false, F)
section
variable {Hd : Type} {enc : TypeId × Value → Hd} {P : Program} {w : World} {held : Bool}
theorem Rel.pushRo {B : Nat} {w0 : World} {ρ : bN} {H : AH} (h : Rel P w0 B ρ H w) {row : List Value} {c d sz : Nat} (hc : c < w.heap.size) (hcB : c < B) (hor : rL P ρ d sz (.cells true row) w.heap[c]?) :
 Rel P w0 B (ρ.upd H.size (c, d, sz)) (H.push (.cells true row)) w := by
 have hnone : ρ H.size = none := by
  cases hn : ρ H.size with
  | none => rfl
  | some x => have := h.dom _ _ hn; omega
 have hle := bN.upd_le (x := (c, d, sz)) hnone
 have key : ∀ b1 o1, (H.push (.cells true row)).get b1 = some o1 → (b1 = H.size ∧ o1 = .cells true row) ∨ (b1 < H.size ∧ H.get b1 = some o1) := by
  intro b1 o1 h1;rw [AH.get_push] at h1
  by_cases hb1 : b1 = H.size
  ·rw [if_pos hb1] at h1; exact .inl ⟨hb1, (gD h1).symm⟩
  ·rw [if_neg hb1] at h1; exact .inr ⟨AH.lt_of_get h1, h1⟩
 have old : ∀ {b1 c1 d1 sz1}, b1 < H.size → ρ.upd H.size (c, d, sz) b1 = some (c1, d1, sz1) → ρ b1 = some (c1, d1, sz1) := by
  intro b1 c1 d1 sz1 hb1 hx
  rwa [bN.upd_ne (by omega)] at hx
 have new : ∀ {c1 d1 sz1}, ρ.upd H.size (c, d, sz) H.size = some (c1, d1, sz1) → c1 = c ∧ d1 = d ∧ sz1 = sz := by
  intro c1 d1 sz1 hx;rw [bN.upd_same] at hx;cases hx;exact ⟨rfl, rfl, rfl⟩
 refine ⟨h.base, h.below, ?_, ?_, ?_, ?_, ?_, ?_⟩
 ·intro b1 x hx
  rw [AH.size_push]
  by_cases hb1 : b1 = H.size
  ·omega
  ·rw [bN.upd_ne hb1] at hx; have := h.dom b1 x hx; omega
 ·intro b1 c1 d1 sz1 hx
  by_cases hb1 : b1 = H.size
  ·subst hb1
   obtain ⟨rfl, _, _⟩ := new hx;exact hc
  ·rw [bN.upd_ne hb1] at hx; exact h.blk b1 c1 d1 sz1 hx
 ·intro b1 c1 d1 sz1 o1 hx h1
  rcases key b1 o1 h1 with ⟨rfl, rfl⟩ | ⟨hb1, h1⟩
  ·obtain ⟨rfl, rfl, rfl⟩ := new hx
   exact hor.mono hle
  ·exact (h.obj b1 c1 d1 sz1 o1 (old hb1 hx) h1).mono hle
 ·intro b1 c1 d1 sz1 o1 hx h1 hrw
  rcases key b1 o1 h1 with ⟨rfl, rfl⟩ | ⟨hb1, h1⟩
  ·cases hrw
  ·exact h.own b1 c1 d1 sz1 o1 (old hb1 hx) h1 hrw
 ·intro b1 c1 d1 sz1 cs1 hx h1
  rcases key b1 _ h1 with ⟨rfl, _⟩ | ⟨hb1, h1⟩
  ·obtain ⟨rfl, _, _⟩ := new hx
   exact hcB
  ·exact h.ro b1 c1 d1 sz1 cs1 (old hb1 hx) h1
 ·intro b1 b2 c1 d1 d2 sz1 sz2 o1 o2 hx1 hx2 h1 h2 hr1 hr2
  rcases key b1 o1 h1 with ⟨rfl, rfl⟩ | ⟨hb1, h1⟩
  ·cases hr1
  ·rcases key b2 o2 h2 with ⟨rfl, rfl⟩ | ⟨hb2, h2⟩
   ·cases hr2
   ·exact h.inj b1 b2 c1 d1 d2 sz1 sz2 o1 o2 (old hb1 hx1) (old hb2 hx2) h1 h2 hr1 hr2
theorem OF {B : Nat} {w0 : World} {ρ : bN} {H : AH} (h : Rel P w0 B ρ H w) (x : Nat × Nat × Nat) : ∀ b y, ρ b = some y → ρ.upd H.size x b = some y :=
 bN.upd_le (by
  cases hn : ρ H.size with
  | none => rfl
  | some x => have := h.dom _ _ hn; omega)
def Got (P : Program) (w : World) (ρ : bN) (H : AH) (ty : Ty) (cs : List Value) (ρ' : bN) (H' : AH) : Prop :=
 ∃ x avs, Rel P w w.heap.size ρ' H' w ∧ (∀ b y, ρ b = some y → ρ' b = some y) ∧ f7 H H' ∧ LRel P ρ' avs cs ∧ Abs H' ty x avs ∧ Ei ty x
theorem Bk {fuel : Nat} {t : TypeId} {cs : List Value} {x : DataW Hd × List MemPlace} (h : DataW.trod enc P w 0 (fun _ => true) held fuel t cs = some x) : ∃ n, fuel = n + 1 := by
 cases fuel with
 | zero => simp [DataW.trod] at h
 | succ n => exact ⟨n, rfl⟩
theorem V4 {ty : Ty} {e : TypeId} {n : Nat} (ih : ∀ (cs : List Value) (x : DataW Hd × List MemPlace) (ρ : bN) (H : AH), Rel P w w.heap.size ρ H w → DataW.trod enc P w 0 (fun _ => true) held n e cs = some x → wOK P e x.1 → ∃ ρ' H', Got P w ρ H ty cs ρ' H')
 (a : Addr) : ∀ (m i : Nat) (ρ : bN) (H : AH), Rel P w w.heap.size ρ H w → (∀ j, i ≤ j → j < i + m → ∃ y, (w.cells? 0 (a.add (j * ty.w)) ty.w).bind (DataW.trod enc P w 0 (fun _ => true) held n e) = some y ∧ wOK P e y.1) →
  ∃ ρ' H' l row cc, Rel P w w.heap.size ρ' H' w ∧ (∀ b y, ρ b = some y → ρ' b = some y) ∧ f7 H H' ∧ l.length = m ∧ lB (Abs H' ty) l row ∧ LRel P ρ' row cc ∧ (∀ k, k < m * ty.w → w.cell? (a.add (i * ty.w + k)) = cc[k]?) ∧ cc.length = m * ty.w ∧ ∀ x ∈ l, Ei ty x := by
 intro m
 induction m with
 | zero =>
  intro i ρ H hR _;exact ⟨ρ, H, [], [], [], hR, fun _ _ h => h, f7.refl H, rfl, .nil, LRel.nil, fun k hk => by omega, by simp, fun x hx => by cases hx⟩
 | succ m ihm =>
  intro i ρ H hR hel;obtain ⟨y, hy, hwy⟩ := hel i (bv _) (by omega);obtain ⟨cs, hcs, hy⟩ := aH.1 hy;obtain ⟨ρ1, H1, x, avs, hR1, hle1, hk1, hl1, ha1, hs1⟩ := ih cs y ρ H hR hy hwy;obtain ⟨ρ2, H2, l, row, cc, hR2, hle2, hk2, hlen, hrow, hl2, hcell, hcl, hs2⟩ := ihm (i + 1) ρ1 H1 hR1 (fun j h1 h2 => hel j (by omega) (by omega));obtain ⟨_, hcsl, hcsg⟩ := World.cells?_some hcs;refine ⟨ρ2, H2, x :: l, avs ++ row, cs ++ cc, hR2, fun b y h => hle2 b y (hle1 b y h), hk1.trans hk2, by simp [hlen], .cons (Abs.keep hk2 ty x avs ha1) hrow, (hl1.mono hle2).append hl2, ?_, ?_, ?_⟩
  ·intro k hk
   have hmul : (m + 1) * ty.w = ty.w + m * ty.w := by rw [Nat.add_mul]; omega
   have hmul2 : (i + 1) * ty.w = i * ty.w + ty.w := by rw [Nat.add_mul]; omega
   by_cases hkw : k < ty.w
   ·rw [List.getElem?_append_left (by omega), ← hcsg k hkw]
    congr 1
    unfold Addr.add
    repeat' split
    all_goals first | rfl | omega | (simp; done) | (simp; omega)
   ·rw [List.getElem?_append_right (by omega), hcsl, ← hcell (k - ty.w) (by omega), hmul2]
    congr 2
    omega
  ·rw [qr, hcsl, hcl, Nat.add_mul]; omega
  ·intro z hz
   rcases List.mem_cons.1 hz with rfl | hz
   ·exact hs1
   ·exact hs2 z hz
theorem ajF : ∀ (ty : Ty),
 (∀ (t : TypeId), (rC P ty).1 t = true → ∀ (fuel : Nat) (cs : List Value) (x : DataW Hd × List MemPlace) (ρ : bN) (H : AH), Rel P w w.heap.size ρ H w → DataW.trod enc P w 0 (fun _ => true) held fuel t cs = some x → wOK P t x.1 → ∃ ρ' H', Got P w ρ H ty cs ρ' H') ∧
 (∀ (fs : List Field) (off : Nat), (rC P ty).2 fs off = true → ∀ (fuel : Nat) (cs : List Value) (ρ : bN) (H : AH), Rel P w w.heap.size ρ H w → cs.length = off + ty.w →
  (∀ f ∈ fs, ∃ y, DataW.trod enc P w 0 (fun _ => true) held fuel f.type ((cs.drop f.offset).take (P.cellsOf f.type)) = some y ∧ wOK P f.type y.1) → ∃ ρ' H', Got P w ρ H ty (cs.drop off) ρ' H') := by
 intro ty
 induction ty with
 | int k =>
  refine ⟨?_, fun fs off h => by cases h⟩;intro t ht fuel cs x ρ H hR h hwx;obtain ⟨n, rfl⟩ := Bk h;simp only [rC] at ht
  split at ht
  ·rename_i k' hu
   simp only [Bool.and_eq_true, beq_iff_eq] at ht;obtain ⟨rfl, _⟩ := ht;obtain ⟨n, rfl, _, hw⟩ := DataW.trod_int hu h;exact ⟨ρ, H, n, [.int k' n], hR, fun _ _ h => h, f7.refl H, LRel.of_all rfl, ⟨rfl, hw⟩, trivial⟩
  ·cases ht
 | bool =>
  refine ⟨?_, fun fs off h => by cases h⟩;intro t ht fuel cs x ρ H hR h hwx;obtain ⟨n, rfl⟩ := Bk h;simp only [rC] at ht
  split at ht
  ·rename_i hu
   obtain ⟨b, rfl, _⟩ := DataW.trod_bool hu h;exact ⟨ρ, H, b, [.bool b], hR, fun _ _ h => h, f7.refl H, LRel.of_all rfl, rfl, trivial⟩
  ·cases ht
 | unit =>
  refine ⟨fun t h => by (cases h), ?_⟩;intro fs off hfs fuel cs ρ H hR hl h;refine ⟨ρ, H, (), [], hR, fun _ _ h => h, f7.refl H, ?_, rfl, trivial⟩;have : cs.drop off = [] := List.drop_eq_nil_of_le (by simp [Ty.w] at hl; omega);rw [this]; exact LRel.nil
 | slice ty ih =>
  refine ⟨?_, fun fs off h => by cases h⟩;intro t ht fuel cs x ρ H hR h hwx;simp only [rC] at ht
  split at ht
  ·rename_i e hu
   simp only [Bool.and_eq_true, beq_iff_eq, decide_eq_true_eq] at ht;obtain ⟨⟨⟨ht, he⟩, hw, hby⟩, _⟩ := ht
   rcases DataW.trod_slice hu h with ⟨rfl, _⟩ | ⟨a, len, cap, elems, rest, n, rfl, rfl, hx, _, hlc, hcm, hlen, hel, hsp, _⟩
   ·exact ⟨ρ, H, [], [.slice none 0 0], hR, fun _ _ h => h, f7.refl H, LRel.of_all rfl, .inl ⟨rfl, rfl⟩, Nat.zero_le _, fun x hx => by cases hx⟩
   ·have hwt : DataW.weights P t x.1 = (elems.length + rest.length) * P.bytesOf e :: (DataW.weightsAll P e (elems.map (·.1)) ++ DataW.weightsAll P e (rest.map (·.1))) := by
     rw [hx];unfold DataW.weights;rw [hu];simp
    have hreach : len ≤ reachBytes := by
     have h1 := hwx _ (by rw [hwt]; exact List.mem_cons_self)
     have h2 : len + rest.length ≤ (elems.length + rest.length) * P.bytesOf e := by
      rw [hlen]
      exact Nat.le_mul_of_pos_right _ hby
     omega
    have hwe : ∀ (y : DataW Hd × List MemPlace), (y ∈ elems ∨ y ∈ rest) → wOK P e y.1 := by
     intro y hy n hn;refine hwx n ?_;rw [hwt, List.mem_cons, List.mem_append]
     rcases hy with hy | hy
     ·exact .inr (.inl (tv (List.mem_map.2 ⟨y, hy, rfl⟩) hn))
     ·exact .inr (.inr (tv (List.mem_map.2 ⟨y, hy, rfl⟩) hn))
    rw [he] at hel hsp
    by_cases hc0 : cap = 0
    ·subst hc0
     obtain rfl : len = 0 := by omega
     exact ⟨ρ, H, [], [.slice (some ⟨0, 0, none⟩) 0 0], hR, fun _ _ h => h, f7.refl H, LRel.cons .empty LRel.nil, .inr (.inl ⟨rfl, 0, rfl⟩), Nat.zero_le _, fun x hx => by cases hx⟩
    ·have all : ∀ j, 0 ≤ j → j < 0 + cap → ∃ y, (w.cells? 0 (a.add (j * ty.w)) ty.w).bind (DataW.trod enc P w 0 (fun _ => true) held n e) = some y ∧ wOK P e y.1 := by
      intro j _ hj
      by_cases hjl : j < len
      ·rw [hel j hjl]
       exact ⟨elems[j]'(by omega), cB (by omega), hwe _ (.inl (FX _))⟩
      ·obtain ⟨hr1, hr2⟩ := hsp rfl
       have := hr2 (j - len) (by omega);rw [show len + (j - len) = j from by omega] at this;rw [this];exact ⟨rest[j - len]'(by omega), cB (by omega), hwe _ (.inr (FX _))⟩
     -- all cells of its room are there
     obtain ⟨_, _, _, _, cca, _, _, _, _, _, _, hca, hcal, _⟩ := V4 (fun cs x ρ H => ih.1 e ht n cs x ρ H) a cap 0 ρ H hR all;obtain ⟨ρ1, H1, l, row, cc, hR1, hle1, hk1, hll, hrow, hl1, hcell, hcl, hsm⟩ := V4 (fun cs x ρ H => ih.1 e ht n cs x ρ H) a len 0 ρ H hR (fun j h1 h2 => all j h1 (by omega));have hpos : 0 < cap * ty.w := Nat.mul_pos (by omega) hw;have h0 := hca 0 hpos;have hsome : ∃ v, cca[0]? = some v := ⟨cca[0]'(by omega), cB (by omega)⟩;obtain ⟨v0, hv0⟩ := hsome;rw [hv0] at h0
     have hadd0 : a.add (0 * ty.w + 0) = a := by simp [Addr.add]
     rw [hadd0] at h0;unfold World.cell? at h0
     split at h0
     ·rename_i c el fz hblk
      split at h0
      ·cases h0
      ·rename_i hspot
       obtain ⟨ab, ao, as'⟩ := a
       have : as' = none := by cases as' with | none => rfl | some _ => simp at hspot
       subst this
       have cellsAt : ∀ k, k < cap * ty.w → c[ao + k]? = cca[k]? := by
        intro k hk;have := hca k hk;rw [show 0 * ty.w + k = k from by omega, Addr.add_lit] at this;unfold World.cell? at this;simp only [hblk, Option.isSome_none] at this
        simpa using this
       have hfit : ao + cap * ty.w ≤ c.size := by
        have := cellsAt (cap * ty.w - 1) (by omega);rw [cB (by omega)] at this;have := (Array.getElem?_eq_some_iff.1 this).1;omega
       have hsub : len * ty.w ≤ cap * ty.w := Nat.mul_le_mul_right _ hlc
       have hrl : row.length = len * ty.w := by rw [hl1.1, hcl]
       have hccs : (c.toList.drop ao).take row.length = cc := by
        apply List.ext_getElem?;intro k;rw [hrl, List.getElem?_take]
        by_cases hk : k < len * ty.w
        ·rw [if_pos hk, List.getElem?_drop]
         have h1 := hcell k hk;rw [show 0 * ty.w + k = k from by omega, Addr.add_lit] at h1;unfold World.cell? at h1;simp only [hblk, Option.isSome_none] at h1;rw [← h1];simp
        ·rw [if_neg hk, List.getElem?_eq_none (by omega)]
       have hblk' : w.heap[ab]? = some (.cells c el fz) := hblk;have hab : ab < w.heap.size := (Array.getElem?_eq_some_iff.1 hblk').1;have hp := hR1.pushRo (row := row) (c := ab) (d := ao) (sz := c.size) hab hab ⟨c, el, fz, hblk', rfl, by omega, (fun h => by cases h), by rw [hccs]; exact hl1⟩;have hkp := f7.push H1 (.cells true row);refine ⟨_, _, l, [.slice (some ⟨H1.size, 0, none⟩) l.length ty.w], hp, fun b y h => OF hR1 _ b y (hle1 b y h), hk1.trans hkp, LRel.cons ?_ LRel.nil, .inr (.inr ⟨H1.size, row, AH.get_push_new _ _, rfl, hrow.mono (Abs.keep hkp ty), by omega⟩), by rw [hll]; exact hreach, hsm⟩;rw [hll];have := VRel.slice (P := P) (ρ := ρ1.upd H1.size (ab, ao, c.size)) (b := H1.size) (o := 0) (n := len) (e := ty.w) (c := ab) (d := ao) (sz := c.size) (k := cap) (bN.upd_same ..) (by omega) hlc hw
       simpa using this
     ·cases h0
  ·cases ht
 | pair a b iha ihb =>
  have fields : ∀ (fs : List Field) (off : Nat), (rC P (.pair a b)).2 fs off = true → ∀ (fuel : Nat) (cs : List Value) (ρ : bN) (H : AH), Rel P w w.heap.size ρ H w → cs.length = off + (a.w + b.w) →
   (∀ f ∈ fs, ∃ y, DataW.trod enc P w 0 (fun _ => true) held fuel f.type ((cs.drop f.offset).take (P.cellsOf f.type)) = some y ∧ wOK P f.type y.1) → ∃ ρ' H', Got P w ρ H (.pair a b) (cs.drop off) ρ' H' := by
   intro fs off hfs fuel cs ρ H hR hl h;simp only [rC] at hfs
   cases fs with
   | nil => cases hfs
   | cons f fs =>
    simp only [Bool.and_eq_true, beq_iff_eq] at hfs;obtain ⟨⟨⟨h1, h2⟩, h3⟩, h4⟩ := hfs;obtain ⟨y, hy, hwy⟩ := h f (by simp);rw [h1, h3] at hy;obtain ⟨ρ1, H1, x1, a1, hR1, hle1, hk1, hl1, ha1, hs1⟩ := iha.1 f.type h2 fuel _ y ρ H hR hy hwy;obtain ⟨ρ2, H2, x2, a2, hR2, hle2, hk2, hl2, ha2, hs2⟩ := ihb.2 fs (off + a.w) h4 fuel cs ρ1 H1 hR1 (by omega) (fun g hg => h g (by simp [hg]));refine ⟨ρ2, H2, (x1, x2), a1 ++ a2, hR2, fun b y h => hle2 b y (hle1 b y h), hk1.trans hk2, ?_, ⟨a1, a2, rfl, Abs.keep hk2 a x1 a1 ha1, ha2⟩, hs1, hs2⟩
    have e : cs.drop off = (cs.drop off).take a.w ++ cs.drop (off + a.w) := by
     rw [← List.drop_drop];exact (List.take_append_drop a.w (cs.drop off)).symm
    rw [e];exact (hl1.mono hle2).append hl2
  refine ⟨?_, fields⟩;intro t ht fuel cs x ρ H hR h hwx;obtain ⟨n, rfl⟩ := Bk h;have Pm := ht;simp only [rC] at ht
  split at ht
  ·rename_i fs hu
   simp only [Bool.and_eq_true, beq_iff_eq] at ht;obtain ⟨xs, n', _, hxe, hlen, hxl, hxs⟩ := DataW.trod_struct hu h
   have := fields fs.toList 0 ht.2 n' cs ρ H hR (by rw [hlen, ht.1]; simp) (fun f hf => by
    obtain ⟨i, hi, rfl⟩ := List.mem_iff_getElem.1 hf;have := hxs i fs.toList[i] (by simp);rw [this]
    have hix : i < xs.length := by rw [hxl]; simpa using hi
    refine ⟨xs[i]'hix, cB _, fun n hn => hwx n ?_⟩;rw [hxe];unfold DataW.weights;rw [hu]
    exact DE (i := i) (by rw [An, cB hi]; rfl) (by rw [An, cB hix]; rfl) hn)
   simpa using this
  ·cases ht
end
def valOf : Ty → List Value → Value
 | .pair _ _, cs => .agg cs.toArray
 | .unit, cs => .agg cs.toArray
 | _, cs => cs.headD undef
abbrev aa4 : List Ty → Type
 | [] => Unit
 | t :: ts => t.I × aa4 ts
def tz (H : AH) : (ts : List Ty) → aa4 ts → List Value → Prop
 | [], _, vs => vs = []
 | t :: ts, x, vs => ∃ cs rest, vs = valOf t cs :: rest ∧ Abs H t x.1 cs ∧ tz H ts x.2 rest
theorem tz.keep {H H' : AH} (k : f7 H H') : ∀ (ts : List Ty) (x : aa4 ts) (vs : List Value), tz H ts x vs → tz H' ts x vs := by
 intro ts
 induction ts with
 | nil => intro x vs h; exact h
 | cons t ts ih =>
  intro x vs h;obtain ⟨cs, rest, e, h1, h2⟩ := h;exact ⟨cs, rest, e, Abs.keep k t _ _ h1, ih _ _ h2⟩
def zO : (ts : List Ty) → aa4 ts → Prop
 | [], _ => True
 | t :: ts, x => Ei t x.1 ∧ zO ts x.2
def tK (P : Program) : List Ty → List TypeId → Bool
 | [], [] => true
 | ty :: tys, t :: ts => (rC P ty).1 t && P.readableRec t && decide (t < P.types.size) && tK P tys ts
 | _, _ => false
section
variable {Hd : Type} {enc : TypeId × Value → Hd} {P : Program} {w : World} {held : Bool}
theorem akP {ty : Ty} {t : TypeId} (ht : (rC P ty).1 t = true) {v : Value} {d : DataW Hd} {ps : List MemPlace} {r : Reach} {b0 : Nat} (hval : Value.okWide P w r b0 t v) (h : DataW.Trod enc P w 0 (fun _ => true) held t v d ps) (hwd : wOK P t d)
 {ρ : bN} {H : AH} (hR : Rel P w w.heap.size ρ H w) : ∃ ρ' H' x avs, Rel P w w.heap.size ρ' H' w ∧ (∀ b y, ρ b = some y → ρ' b = some y) ∧ f7 H H' ∧ VRel P ρ' (valOf ty avs) v ∧ Abs H' ty x avs ∧ Ei ty x := by
 obtain ⟨fuel, h⟩ := h;obtain ⟨ρ', H', x, avs, h1, h2, h3, h4, h5, h6⟩ := (ajF (enc := enc) (P := P) (w := w) (held := held) ty).1 t ht fuel _ _ ρ H hR h hwd;refine ⟨ρ', H', x, avs, h1, h2, h3, ?_, h5, h6⟩;have hlen := Abs.length ty x avs h5
 have one : ∀ (hw : ty.w = 1) (hva : ∀ cs, v ≠ .agg cs), VRel P ρ' (avs.headD undef) v := by
  intro hw hva
  have hc : v.cells.toList = [v] := by
   cases v <;> first | rfl | exact absurd rfl (hva _)
  rw [hc] at h4
  match avs, hlen with
  | [a], _ => exact h4.2 0 a v rfl rfl
  | [], hl => rw [hw] at hl; cases hl
  | a :: b :: l, hl => rw [hw] at hl; simp at hl
 cases ty with
 | int k =>
  refine one rfl (fun cs e => ?_);subst e;simp only [rC] at ht
  split at ht
  ·rename_i hu
   unfold Value.okWide at hval;rw [hu] at hval;unfold Cell.okWide at hval;rw [hu] at hval;unfold Cell.ok at hval;rw [hu] at hval;exact hval
  ·cases ht
 | bool =>
  refine one rfl (fun cs e => ?_);subst e;simp only [rC] at ht
  split at ht
  ·rename_i hu
   unfold Value.okWide at hval;rw [hu] at hval;unfold Cell.okWide at hval;rw [hu] at hval;unfold Cell.ok at hval;rw [hu] at hval;exact hval
  ·cases ht
 | slice e =>
  refine one rfl (fun cs e => ?_);subst e;simp only [rC] at ht
  split at ht
  ·rename_i hu
   unfold Value.okWide at hval;rw [hu] at hval;unfold Cell.okWide at hval;rw [hu] at hval;unfold Cell.ok at hval;rw [hu] at hval;exact hval
  ·cases ht
 | unit => simp only [rC] at ht; cases ht
 | pair a b =>
  simp only [rC] at ht
  split at ht
  ·rename_i fs hu
   unfold Value.okWide at hval;rw [hu] at hval;obtain ⟨cs, rfl, _⟩ := hval;have h4 : LRel P ρ' avs cs.toList := h4;exact .agg (by simpa using h4.1) (fun i x y hx hy => h4.2 i x y (by simpa using hx) (by simpa using hy))
  ·cases ht
theorem abI : ∀ (tys : List Ty) (ts : List TypeId) (vs : List Value) (ds : List (DataW Hd)) (ps : List MemPlace), tK P tys ts = true → (∀ (j : Nat) t v, ts[j]? = some t → vs[j]? = some v → ∃ r b0, Value.okWide P w r b0 t v) →
 DataW.TrodAll enc P w 0 (fun _ => true) held ts vs ds ps → (∀ n ∈ DataW.weightsEach P ts ds, n ≤ reachBytes) → ∀ (ρ : bN) (H : AH), Rel P w w.heap.size ρ H w →
 ∃ ρ' H' x avs, Rel P w w.heap.size ρ' H' w ∧ (∀ b y, ρ b = some y → ρ' b = some y) ∧ f7 H H' ∧ LRel P ρ' avs vs ∧ tz H' tys x avs ∧ zO tys x := by
 intro tys
 induction tys with
 | nil =>
  intro ts vs ds ps hc hval h hwd ρ H hR
  cases ts with
  | cons t ts => cases hc
  | nil =>
   obtain ⟨rfl, _, _⟩ := trodAll_nil h;exact ⟨ρ, H, (), [], hR, fun _ _ h => h, f7.refl H, LRel.nil, rfl, trivial⟩
 | cons ty tys ih =>
  intro ts vs ds ps hc hval h hwd ρ H hR
  cases ts with
  | nil => cases hc
  | cons t ts =>
   simp only [tK, Bool.and_eq_true] at hc;obtain ⟨⟨⟨hc1, _⟩, _⟩, hc2⟩ := hc;obtain ⟨v, vs', d, ds', p, q, rfl, rfl, rfl, hd, hrest⟩ := trodAll_cons h;obtain ⟨r, b0, hv0⟩ := hval 0 t v rfl rfl;obtain ⟨ρ1, H1, x1, a1, hR1, hle1, hk1, hv1, ha1, hs1⟩ := akP hc1 hv0 hd (fun n hn => hwd n (by rw [DataW.weightsEach]; exact List.mem_append_left _ hn)) hR;obtain ⟨ρ2, H2, x2, a2, hR2, hle2, hk2, hl2, ha2, hs2⟩ := ih ts vs' ds' q hc2 (fun j t v h1 h2 => hval (j + 1) t v (by simpa using h1) (by simpa using h2)) hrest (fun n hn => hwd n (by rw [DataW.weightsEach]; exact List.mem_append_right _ hn)) ρ1 H1 hR1;exact ⟨ρ2, H2, (x1, x2), valOf ty a1 :: a2, hR2, fun b y h => hle2 b y (hle1 b y h), hk1.trans hk2, LRel.cons (hv1.mono hle2) hl2, ⟨a1, a2, rfl, Abs.keep hk2 ty x1 a1 ha1, ha2⟩, hs1, hs2⟩
theorem WJ (hl : laidOutB P = true) {W' : World} (hb : Below w.heap.size w W') : ∀ (tys : List Ty) (ts : List TypeId) (vs : List Value) (ds : List (DataW Hd)) (ps : List MemPlace), tK P tys ts = true → (∀ x ∈ ps, x.block < w.heap.size) →
 DataW.TrodAll enc P w 0 (fun _ => true) true ts vs ds ps → DataW.TrodAll enc P W' 0 (fun b => decide (b < w.heap.size)) true ts vs ds ps := by
 intro tys
 induction tys with
 | nil =>
  intro ts vs ds ps hc hlt h
  cases ts with
  | cons t ts => cases hc
  | nil =>
   obtain ⟨rfl, rfl, rfl⟩ := trodAll_nil h;exact trodAll_mk0
 | cons ty tys ih =>
  intro ts vs ds ps hc hlt h
  cases ts with
  | nil => cases hc
  | cons t ts =>
   simp only [tK, Bool.and_eq_true, decide_eq_true_eq] at hc;obtain ⟨⟨⟨_, hc1⟩, hc3⟩, hc2⟩ := hc;obtain ⟨v, vs', d, ds', p, q, rfl, rfl, rfl, hd, hrest⟩ := trodAll_cons h;exact ⟨p, q, Below.trod hl hc1 hc3 hd hb (fun x hx => hlt x (by simp [hx])), ih ts vs' ds' q hc2 (fun x hx => hlt x (by simp [hx])) hrest, rfl⟩
theorem law_post (hm : P.follows .mixedOrders = true) (hl : laidOutB P = true) {G : List Nat} {f : Nat} {fn : Func} {s : ChangeSpec} {tys : List Ty} (hc : tK P tys fn.params.toList = true)
 {tb : TypeId} (hres : fn.resultTypes = #[tb]) (hb : P.underlying tb = some .bool) (hvars : s.vars = [])
 {args : Array Value} {ds gs : List (DataW Hd)} {before : List MemPlace} (hval : ∀ (j : Nat) t v, fn.params[j]? = some t → args[j]? = some v → ∃ r b0, Value.okWide P w r b0 t v)
 (hW : DataW.Whole enc P fn.params.toList s.vars false w args.toList ds gs before) (hspec : s.fn Hd (ds ++ gs) = { results := [.lit (.bool true)], args := ds })
 {ρ0 : bN} {H0 : AH} (hR : Rel P w w.heap.size ρ0 H0 w) (hG : GlobRel ρ0 G)
 (hwt : (DataW.weightsEach P fn.params.toList ds).all (· ≤ reachBytes) = true)
 (run : ∀ (x : aa4 tys) (avs : List Value) (H : AH), f7 H0 H → tz H tys x avs → zO tys x → ∃ H', aF P G f avs H = some (.bool true, H')) :
 Calls P f args w fun e w' => ∃ v, e = .returned v ∧ s.post enc P fn false true false false w args v w' := by
 have hW' := hW;obtain ⟨p, q, hA, hV, rfl, hfz, hnd⟩ := hW;rw [hvars] at hV;obtain ⟨rfl, rfl⟩ := trodVars_none hV;obtain ⟨ρ1, H1, x, avs, hR1, hle1, hk1, hl1, ha1, hs1⟩ := abI tys fn.params.toList args.toList ds p hc (fun j t v h1 h2 => hval j t v (by simpa using h1) (by simpa using h2)) hA (fun n hn => by simpa using List.all_eq_true.1 hwt n hn) ρ0 H0 hR;obtain ⟨H', hrun⟩ := run x avs H1 hk1 ha1 hs1;have hG1 : GlobRel ρ1 G := fun g hg => let ⟨sz, h⟩ := hG g hg; ⟨sz, hle1 _ _ h⟩;have hcall := ((arB (P := P) (G := G) hm).1 f avs H1 _ H' hrun).2 w w.heap.size ρ1 w args.toList hR1 hG1 hl1;rw [show args.toList.toArray = args from by simp] at hcall;refine hcall.mono fun e w' ⟨v', ρ', he, hv, hext, hR'⟩ => ?_
 have hv : v' = .bool true := by
  cases hv with
  | lit h => rfl
 subst hv;subst he
 have hlt : ∀ y ∈ p, y.block < w.heap.size := fun y hy => by
  have := hW'.lt y (by simp [hy])
  simpa using this
 refine ⟨_, rfl, ds, [], p ++ [], [], p, [], hW', ?_, ?_, ?_, ?_, fun h => by cases h⟩
 ·rw [hspec, hres]
  exact ⟨[], [], shut_bool hb true, trodAll_mk0, rfl⟩
 ·rw [hspec]
  exact WJ hl hR'.below tys _ _ _ _ hc hlt hA
 ·rw [hvars, hspec]
  rfl
 ·exact hR'.below.frame _
end
theorem rel_none (P : Program) (w : World) : Rel P w w.heap.size (fun _ => none) ⟨[]⟩ w where
 base := bv _
 below := Below.refl _ _
 dom := fun b x h => by cases h
 blk := fun b c d sz h => by cases h
 obj := fun b c d sz o h => by cases h
 own := fun b c d sz o h => by cases h
 ro := fun b c d sz cs h => by cases h
 inj := fun b b' c d d' sz sz' o o' h => by cases h
end Go.Proofs.YtghoamdlcjdfjaaGreatDoor.Gst
namespace Go.Proofs.YtghoamdlcjdfjaaGreatDoor.Gst
open Go Go.RowKit
set_option maxRecDepth 100000
set_option linter.unusedVariables false
set_option maxHeartbeats 1000000
abbrev WL : Nat := 65185151242703554760590262029100101153646988597309960020356494379340201592426774597868716015
abbrev Nf : Nat := 21778071482940061661655974875633165468609
abbrev PA : Nat := 21778071482940061661655974875633164469245
abbrev J2 : Nat := 1237940039285380274899122808
abbrev WM : Nat := 87112285931760246646623899502532662132671
abbrev abR : Nat := 356811923176489970264571492362373784095686572
abbrev HI : Nat := 590295810358705651256
abbrev HJ : Nat := 590295810358705650744
abbrev abS : Nat := 21778071482940061661655974875633165530111
abbrev akR : Nat := 2923003274661805836407369665432566039311865085887
abbrev Ex : Nat := 1237940039285380274899123320
abbrev Ey : Nat := 309485009821345068724780233
abbrev an4 : Nat := 65185151242703554760590262029100101153646988597309960020356494379340201592426774597868715788
abbrev Bq : Nat := 1180591620717411303394
abbrev SM : Nat := 21778071482940061661655974875633165517821
abbrev SN : Nat := 21778071482940061661655974875633165403073
abbrev wW : Nat := 36028797018963852
abbrev Ez : Nat := 590295810358705649720
abbrev SO : Nat := 664613997892457936451903530140172271
abbrev Ne : Nat := 1237940039285380274899123832
abbrev uH : Nat := 17592186044290
abbrev abN : Nat := 356811923176489970264571492362373784095686540
abbrev abO : Nat := 356811923176489970264571492362373784095686412
abbrev SQ : Nat := 40564819207303340847894502572015
abbrev EA : Nat := 1125899906842566
abbrev SR : Nat := 309485009821345068724780751
abbrev wX : Nat := 137438953423
abbrev Br : Nat := 4398046511091
abbrev EB : Nat := 17592186044162
abbrev Bs : Nat := 137438953356
abbrev EC : Nat := 4397241204723
abbrev ED : Nat := 1099511627762
abbrev EE : Nat := 1099511627724
abbrev SS : Nat := 1180591620717411303411
abbrev Ng : Nat := 72057594037927887
abbrev ST : Nat := 590295810358705651519
abbrev wY : Nat := 536870861
abbrev SU : Nat := 36893488147419103219
abbrev Nh : Nat := 1125899906842598
abbrev SV : Nat := 576460752303423436
abbrev EF : Nat := 1073692589
abbrev EG : Nat := 1073741708
abbrev Ni : Nat := 17592186044387
abbrev abP : Nat := 18889465931478580850727
abbrev SW : Nat := 36028797018963919
abbrev abQ : Nat := 1180591620717411303362
abbrev Nj : Nat := 4398046511090
abbrev Nk : Nat := 1099511627771
abbrev Nl : Nat := 1099511627759
abbrev SX : Nat := 2251799813685196
noncomputable abbrev PP : Program := Tryz.prog
def GG : List Nat := [0]
noncomputable abbrev FF : bG := aF PP GG
noncomputable abbrev CQ (c : Code) (kn : KK) (kx : KX) (kr : KK) : KK := CK PP GG FF c kn kx kr
noncomputable abbrev Cb (c : Code) (kx : KX) (kr : KK) : KK := CL PP GG FF c kx kr
def ju : Nat := 6
def vK : Nat := 10
def oT : Nat := 12
def sG : Nat := 13
def vL : Nat := 14
def vJ : Nat := 16
def bz : Nat := 18
def kG : Nat := 19
def f3 : Nat := 20
def fw : Nat := 21
def jw : Nat := 22
def d8 : Nat := 23
def sK : Nat := 26
def oc : Nat := 28
def oa : Nat := 29
def Vz : Nat := 30
def sO : Nat := 31
def g7 : Nat := 32
def fM : Nat := 40
def sI : Nat := 44
def nq : Nat := 45
def ng : Nat := 46
def sH : Nat := 47
def lD : Nat := 48
def fZ : Nat := 49
def dw : Nat := 56
def jB : Nat := 57
def f2 : Nat := 58
def nh : Nat := 59
def kf : Nat := 60
def At : Nat := 61
def kH : Nat := 62
def As : Nat := 63
def e6 : Nat := 64
def qt : Nat := 65
def kF : Nat := 66
def vM : Nat := 67
def qv : Nat := 68
def nj : Nat := 69
def Av : Nat := 70
def ag5 : Nat := 71
def bD : Nat := 73
def ef : Nat := 75
def sJ : Nat := 79
def dn : Nat := 80
def oS : Nat := 81
def Au : Nat := 82
def sF : Nat := 83
def sQ : Nat := 84
def vN : Nat := 85
def vH : Nat := 86
def np : Nat := 87
def nr : Nat := 88
def oV : Nat := 89
def oU : Nat := 90
def d7 : Nat := 91
def g9 : Nat := 92
def gv : Nat := 93
def iP : Nat := 94
def Ax : Nat := 95
def ny : Nat := 96
def bo : Nat := 97
def sE : Nat := 98
def oR : Nat := 99
def dx : Nat := 104
def fG : Nat := 105
def ix : Nat := 106
def jz : Nat := 107
def ne : Nat := 108
def eZ : Nat := 109
def bE : Nat := 110
def F6 : Nat := 111
def hF : Nat := 112
def ed : Nat := 113
def lF : Nat := 114
def eK : Nat := 115
def bU : Nat := 116
def iN : Nat := 117
def gM : Nat := 118
def iM : Nat := 119
def ko : Nat := 120
def nu : Nat := 121
def fK : Nat := 122
def iO : Nat := 123
def jy : Nat := 124
def aoJ : Nat := 125
def ag3 : Nat := 126
def d9 : Nat := 127
def fJ : Nat := 128
def nl : Nat := 129
def bY : Nat := 130
def kp : Nat := 131
def gf : Nat := 132
def jx : Nat := 133
def Aw : Nat := 134
def od : Nat := 135
def qw : Nat := 136
def vP : Nat := 137
def g8 : Nat := 138
def sN : Nat := 139
def iy : Nat := 142
def jA : Nat := 143
def kq : Nat := 144
def jv : Nat := 145
def ag4 : Nat := 148
def fI : Nat := 149
def sL : Nat := 150
def vO : Nat := 151
def yr : Nat := 152
def yq : Nat := 153
def ag1 : Nat := 154
def ge : Nat := 155
def vQ : Nat := 156
def ch : Nat := 157
def oW : Nat := 158
def dI : Nat := 159
def eH : Nat := 160
def eL : Nat := 161
def fL : Nat := 162
def lO : Nat := 163
def qY : Nat := 164
def ja : Nat := 167
def j9 : Nat := 168
def ag2 : Nat := 169
def km : Nat := 170
def gN : Nat := 171
def lG : Nat := 172
def eb : Nat := 173
def eJ : Nat := 174
def iH : Nat := 175
def eI : Nat := 176
def iL : Nat := 177
def lE : Nat := 178
def kg : Nat := 179
def kj : Nat := 180
def gj : Nat := 181
def BI : Nat := 182
def fN : Nat := 183
def oh : Nat := 184
def qu : Nat := 185
def ol : Nat := 186
def vR : Nat := 190
def sP : Nat := 191
def sM : Nat := 200
def gr : Nat := 201
def dm : Nat := 202
def cX : Nat := 203
def cM : Nat := 204
def mB : Nat := 207
def my : Nat := 208
def yo : Nat := 209
def bI : Nat := 210
def g6 : Nat := 211
def dl : Nat := 212
def nk : Nat := 213
def fH : Nat := 214
def dR : Nat := 215
def lp : Nat := 216
def dr : Nat := 217
def ni : Nat := 218
def sR : Nat := 220
def vI : Nat := 221
def cY : Nat := 236
def eg : Nat := 237
def bi : Nat := 238
def b8 : Nat := 239
def bQ : Nat := 240
def f0 : Nat := 242
def dN : Nat := 243
def cg : Nat := 244
def eW : Nat := 245
def jC : Nat := 246
def qx : Nat := 248
def kK : Nat := 277
def kI : Nat := 278
def bq : Nat := 279
def aQ : Nat := 280
def dy : Nat := 281
def mz : Nat := 282
def eY : Nat := 283
def kJ : Nat := 299
def ca : Nat := 300
def dV : Nat := 301
def e7 : Nat := 302
def oX : Nat := 303
def fg : Nat := 304
def hM : Nat := 305
def hJ : Nat := 306
def pJ : Nat := 307
def j8 : Nat := 308
def j7 : Nat := 309
def dJ : Nat := 315
def dD : Nat := 316
def cj : Nat := 317
def fF : Nat := 318
def gu : Nat := 319
def pI : Nat := 320
def iw : Nat := 321
def mE : Nat := 322
def cy : Nat := 323
def fE : Nat := 324
def og : Nat := 325
def yp : Nat := 326
def mD : Nat := 327
def mv : Nat := 328
def mw : Nat := 329
def gi : Nat := 330
def lH : Nat := 331
def hU : Nat := 332
def gq : Nat := 333
def kc : Nat := 334
def dQ : Nat := 335
def jt : Nat := 336
def mA : Nat := 337
def iV : Nat := 338
def mC : Nat := 339
def iW : Nat := 340
def pH : Nat := 341
section
variable (x0 x1 x2 x3 x4 x5 x8 x9 x10 x14 x15 x32 x35 x48 x51 : Value) (H : AH)
noncomputable def uK (p : List Nat) : Code := Code.sub (bH Tryz.f10) p
noncomputable def rV : KK := dM PP (Tryz.f10).results.toList
noncomputable def acN : KK := CQ (uK [1, 1, 1, 1, 1]) rV bA rV
noncomputable def BB : OV := acN (ls [u, x1, x2, u, x4, x5, u, u, x8] 79) H
noncomputable def P9 : KK := CQ (uK [1, 1, 1, 1, 1, 1]) rV bA rV
noncomputable def acL : KK := eG SR P9
noncomputable def BC : OV := P9 (ls [u, u, u, u, x4, x5, u, u, x8] 79) H
noncomputable def acP : KK := CQ (uK [1, 1, 1, 1, 1, 0, 1]) acL bA rV
noncomputable def BD : OV := acP (ls [u, x1, x2, u, x4, x5, u, u, x8, x9] 78) H
noncomputable def Qc : KX := BX 0 acL bA
noncomputable def Kk : KX := qQ SR Qc
noncomputable def Qa : KK := Cb (uK [1, 1, 1, 1, 1, 0, 1, 4, 5]) Kk rV
noncomputable def acM : KK := eG Ey Qa
noncomputable def n8 : OV := Qa (ls [u, x1, x2, u, x4, x5, u, u, x8, x9] 78) H
noncomputable def acR : KK := CQ (uK [1, 1, 1, 1, 1, 0, 1, 4, 5, 1]) acM Kk rV
noncomputable def BE : OV := acR (ls [u, x1, x2, u, x4, x5, u, u, x8, x9] 78) H
noncomputable def Qb : KK := CQ (uK [1, 1, 1, 1, 1, 0, 1, 4, 5, 1, 1]) acM Kk rV
noncomputable def apK : KK := eG Ey Qb
noncomputable def sA : OV := Qb (ls [u, x1, x2, u, x4, x5, u, u, x8, x9] 78) H
noncomputable def ak5 : KX := BX 1 apK Kk
noncomputable def uP : OV := Qc 0 (ls [u, u, u, u, x4, x5, u, u, x8] 79) H
theorem nU : ar 309485009821345068724781007 rV := rf
theorem acO : ar 309485009821345068724780745 acN := rc nU aB nU
theorem E4 : ar SR P9 := rc nU aB nU
theorem acQ : ar Ey acP := rc (cd E4) aB nU
theorem rW : ∀ i, ar SR (Qc i) := rb (cd E4) aB
theorem xf : ar Ey Qa := rl (cx rW) nU
theorem acS : ar Ey acR := rc (cd xf) (cx rW) nU
theorem NG : ar Ey Qb := rc (cd xf) (cx rW) nU
theorem Xa : ∀ i, ar Ey (ak5 i) := rb (cd NG) (cx rW)
theorem FQ : BC x4 x5 x8 H =
 (ax 2 x8 H).bind fun b =>
 (cH 2 x4 b H).bind fun a =>
 (ax 2 x4 a).bind fun c => some (Value.tuple #[c, (vb true)], a) :=
 (by kernel_rfl)
theorem FT : sA x1 x2 x4 x5 x8 x9 H =
 (aj .other .add x9 (vi 1)).bind fun a =>
 n8 x1 x2 x4 x5 x8 a H :=
 (by kernel_rfl)
theorem FS : BE x1 x2 x4 x5 x8 x9 H =
 ld [.f 0] x2 H fun d =>
 (aj .other .quo x9 d).bind fun e =>
 ld [.f 1] x2 H fun g =>
 (aj .other .lss e g).bind fun a =>
 (gB a true (ax 2 x8 H)).bind fun i =>
 (gV a true x9).bind fun j =>
 (gV a true x9).bind fun k =>
 (gB a true (aj .other .add (vi 1) k)).bind fun l =>
 (gV a true x9).bind fun m =>
 (gB a true (aj .other .rem m (vi 2))).bind fun n =>
 (gB a true (aj .other .add (vi 2) n)).bind fun o =>
 (gE a true H (FF ng [i, j, l, o] H)).bind fun b =>
 (gB a true (pM .not b.1)).bind fun p =>
 (aK a p (vb false)).bind fun q =>
 av q
 (gY [(0, 1), (1, 1)] [(.pointer none), (.pointer none)] [] fun s =>
 (cH 2 x4 s b.2).bind fun c =>
 (ax 2 x4 c).bind fun t => some (Value.tuple #[t, (vb false)], c))
 (sA x1 x2 x4 x5 x8 x9 b.2) :=
 (pt rfl 0 NG (bt rfl (uK [1, 1, 1, 1, 1, 0, 1, 4, 5, 1, 0, 4]) 1 Xa (by kernel_rfl)))
theorem Af : uP x4 x5 x8 H = BC x4 x5 x8 H :=
 (by kernel_rfl)
theorem sy : n8 x1 x2 x4 x5 x8 x9 H =
 (aj .other .lss x9 x1).bind fun a =>
 av a
 (BE x1 x2 x4 x5 x8 x9 H)
 (uP x4 x5 x8 H) :=
 CD rfl xf (pt rfl 0 acS (by kernel_rfl))
theorem FR : BD x1 x2 x4 x5 x8 x9 H =
 n8 x1 x2 x4 x5 x8 x9 H :=
 (bt rfl (uK [1, 1, 1, 1, 1, 0, 1, 4]) 0 rW (li rfl (uK [1, 1, 1, 1, 1, 0, 1, 4, 5]) xf (by kernel_rfl)))
theorem FP : BB x1 x2 x4 x5 x8 H =
 BD x1 x2 x4 x5 x8 (vi 0) H :=
 (pt rfl 0 E4 (pt rfl 0 acQ (by kernel_rfl)))
noncomputable def agL : OV := be PP GG FF (uK []) (ls [x0, x1] 86) H rV bA rV
theorem N2 {r : Value × AH} (h : (
 aW (Value.cells x0).toList H fun c y =>
 aW [(.pointer none), (.pointer none)] y fun k m =>
 (ax 5 c m).bind fun z =>
 (FF oT [z] m).bind fun o =>
 (cH 5 c o.1 o.2).bind fun p =>
 (ax 5 c p).bind fun A =>
 (FF sI [A] p).bind fun a =>
 (ag a.1 0).bind fun b =>
 (ag a.1 1).bind fun B =>
 (aj .other .neq B (vi 0)).bind fun l =>
 (gV l false b).bind fun C =>
 (gB l false (aj .ptr .eql C (.pointer none))).bind fun D =>
 (aK l (vb true) D).bind fun d =>
 (gV d false b).bind fun E =>
 fc d false  [.n, .f 0] E a.2 fun G =>
 (gB d false (aj .ptr .eql G (.pointer none))).bind fun I =>
 (aK d (vb true) I).bind fun e =>
 (gV e false b).bind fun J =>
 fc e false  [.n, .f 1] J a.2 fun K =>
 (gB e false (aj .ptr .eql K (.pointer none))).bind fun L =>
 (aK e (vb true) L).bind fun g =>
 (gV g false b).bind fun M =>
 fc g false  [.n, .f 2] M a.2 fun N =>
 (gB g false (aj .ptr .eql N (.pointer none))).bind fun O =>
 (aK g (vb true) O).bind fun i =>
 (gV i false b).bind fun P =>
 fc i false  [.n, .f 3] P a.2 fun Q =>
 (gB i false (aj .ptr .eql Q (.pointer none))).bind fun R =>
 (aK i (vb true) R).bind fun j =>
 (gV j false b).bind fun S =>
 fc j false  [.n, .f 4] S a.2 fun T =>
 (gB j false (aj .ptr .eql T (.pointer none))).bind fun U =>
 (aK j (vb true) U).bind fun V =>
 av V
 (gY [(0, 1), (1, 1)] [(.pointer none), (.pointer none)] [] fun W =>
 (cH 2 k W a.2).bind fun q =>
 (ax 2 k q).bind fun X => some (Value.tuple #[X, (vb false)], q))
 ((ax 5 c a.2).bind fun Y =>
 (FF nq [Y] a.2).bind fun s =>
 gY [(0, 1), (1, 1)] [(.pointer none), (.pointer none)] [(0, b), (1, s.1)] fun Z =>
 aW [(.pointer none), (.pointer none)] s.2 fun w a0 =>
 (cH 2 w Z a0).bind fun a1 =>
 BB x1 c k (vb false) w a1)) = some r) : FF vK [x0, x1] H = some r :=
 fo (t := agL x0 x1 H) Tryz.func10 (by kernel_rfl) (Eq.trans (pt rfl 4 acO (by kernel_rfl)) h)
noncomputable def acT (p : List Nat) : Code := Code.sub (bH Tryz.f12) p
noncomputable def E7 : KK := dM PP (Tryz.f12).results.toList
noncomputable def acU : KK := CQ (acT [1, 1]) E7 bA E7
noncomputable def sV : OV := acU (ls [u, x1, x2, x3] 29) H
noncomputable def acW : KK := CQ (acT [1, 1, 1]) E7 bA E7
noncomputable def jH : OV := acW (ls [u, x1, x2, x3] 29) H
theorem DJ : ar 8589934587 E7 := rf
theorem acV : ar 8589934577 acU := rc DJ aB DJ
theorem acX : ar 8589934577 acW := rc DJ aB DJ
theorem yF : jH x1 x2 x3 H =
 ld [.f 0] x1 H fun k =>
 (FF bz [k, (vi 4)] H).bind fun b =>
 (aj .other .add (vi 1) b.1).bind fun l =>
 ad [.f 1] x1 fun g =>
 (aq g b.2).bind fun m =>
 bT (aq g H) (aq g b.2) <|
 (FF bz [m, (vi 4)] b.2).bind fun c =>
 (aj .other .add (vi 1) c.1).bind fun n =>
 ad [.f 2] x1 fun e =>
 (aq e c.2).bind fun o =>
 bT (aq e H) (aq e c.2) <|
 bT (aq e b.2) (aq e c.2) <|
 (FF bz [o, (vi 6)] c.2).bind fun d =>
 (aj .other .add (vi 1) d.1).bind fun p =>
 ad [.f 3] x1 fun a =>
 (aq a d.2).bind fun q =>
 bT (aq a H) (aq a d.2) <|
 bT (aq a b.2) (aq a d.2) <|
 bT (aq a c.2) (aq a d.2) <|
 (FF bz [q, (vi 12)] d.2).bind fun i =>
 gY [(0, 1), (1, 1), (2, 1), (3, 1), (4, 1)] [(vi 0), (vi 0), (vi 0), (vi 0), (vw 0)] [(0, l), (1, n), (2, p), (3, i.1), (4, x3)] fun s =>
 (cH 5 x2 s i.2).bind fun j =>
 (ax 5 x2 j).bind fun t => some (t, j) :=
 (by kernel_rfl)
theorem yE : sV x1 x2 x3 H =
 ld [.f 4] x1 H fun a =>
 (aj .other .rem a (vw 4)).bind fun b =>
 (aj .other .eql b (vw 3)).bind fun c =>
 av c
 (ld [.f 4] x1 H fun d =>
 (aj .other .rem d (vw 4611686018427387904)).bind fun e =>
 (aj .other .add (vw 1) e).bind fun g =>
 jH x1 x2 g H)
 (jH x1 x2 x3 H) :=
 (pt rfl 0 acX (by kernel_rfl))
noncomputable def Oj : OV := be PP GG FF (acT []) (ls [x0] 32) H E7 bA E7
theorem Gc {r : Value × AH} (h : (
 aW (Value.cells x0).toList H fun a c =>
 aW [(vi 0), (vi 0), (vi 0), (vi 0), (vw 0)] c fun d b =>
 ld [.f 4] a b fun e =>
 (aj .other .rem e (vw 5000)).bind fun g =>
 (aj .other .add (vw 1) g).bind fun i =>
 sV a d i b) = some r) : FF oT [x0] H = some r :=
 fo (t := Oj x0 H) Tryz.func12 (by kernel_rfl) (Eq.trans (pt rfl 1 acV (by kernel_rfl)) h)
noncomputable def xh (p : List Nat) : Code := Code.sub (bH Tryz.f14) p
noncomputable def uL : KK := dM PP (Tryz.f14).results.toList
noncomputable def acY : KK := CQ (xh [1, 1]) uL bA uL
noncomputable def BF : OV := acY (ls [u, x1, x2, u, x4, x5] 31) H
noncomputable def Qe : KK := CQ (xh [1, 1, 1]) uL bA uL
noncomputable def KI : KK := eG wX Qe
noncomputable def i9 : OV := Qe (ls [u, u, u, u, x4, x5] 31) H
noncomputable def ac0 : KK := CQ (xh [1, 1, 0, 1]) KI bA uL
noncomputable def BG : OV := ac0 (ls [u, x1, x2, u, x4, x5, u, u, u, u, x10] 26) H
noncomputable def ac4 : KX := BX 0 KI bA
noncomputable def ac5 : KX := qQ wX ac4
noncomputable def ac2 : KK := CQ (xh [1, 1, 0, 1, 4, 1]) KI ac5 uL
noncomputable def lj : OV := ac2 (ls [u, x1, x2, u, x4, x5, u, u, u, u, x10, u, u, u, x14] 22) H
noncomputable def TZ : KK := CQ (xh [1, 1, 0, 1, 4, 1, 3, 1]) KI ac5 uL
noncomputable def lY : OV := TZ (ls [u, x1, u, u, x4, x5, u, u, u, u, u, u, u, u, u, u, u, u, u, u, u, u, u, u, u, u, u, u, u, u, u, u, x32] 4) H
theorem qd : ar 137438953455 uL := rf
theorem acZ : ar 137438953417 acY := rc qd aB qd
theorem r8 : ar wX Qe := rc qd aB qd
theorem ac1 : ar 137438952393 ac0 := rc (cd r8) aB qd
theorem E8 : ∀ i, ar wX (ac4 i) := rb (cd r8) aB
theorem ac3 : ar 137438936009 ac2 := rc (cd r8) (cx E8) qd
theorem XH : ar 133143986125 TZ := rc (cd r8) (cx E8) qd
theorem FV : i9 x4 x5 H =
 (ax 4 x5 H).bind fun b =>
 (cH 4 x4 b H).bind fun a =>
 (ax 4 x4 a).bind fun c => some (c, a) :=
 (by kernel_rfl)
theorem Cq : lY x1 x4 x5 x32 H =
 av x32
 (st 1 [.f 0] x5 (vi 2) H fun a =>
 i9 x4 x5 a)
 (st 1 [.f 0] x5 (vi 3) H fun b =>
 st 1 [.f 3] x5 x1 b fun c =>
 i9 x4 x5 c) :=
 (by kernel_rfl)
theorem sB : lj x1 x2 x4 x5 x10 x14 H =
 av x14
 (st 1 [.f 0] x5 (vi 1) H fun d =>
 ld [.f 2] x2 d fun i =>
 (FF bz [i, (vi 4)] d).bind fun a =>
 (aj .other .gtr a.1 (vi 0)).bind fun j =>
 av j
 (ld [.f 2] x2 a.2 fun k =>
 (FF bz [k, (vi 5)] a.2).bind fun b =>
 (aj .other .add (vi 1) b.1).bind fun l =>
 ad [.f 3] x2 fun c =>
 (aq c b.2).bind fun m =>
 bT (aq c a.2) (aq c b.2) <|
 (FF bz [m, (vi 3)] b.2).bind fun e =>
 (aj .other .add (vi 1) e.1).bind fun n =>
 st 1 [.f 2] x5 l e.2 fun o =>
 st 1 [.f 3] x5 n o fun p =>
 i9 x4 x5 p)
 (i9 x4 x5 a.2))
 ((aj .other .eql x10 (vi 2)).bind fun g =>
 av g
 (lY x1 x4 x5 g H)
 ((aj .other .eql x10 (vi 3)).bind fun q =>
 lY x1 x4 x5 q H)) :=
 (ct rfl (xh [1, 1, 0, 1, 4, 1, 2]) (xh [1, 1, 0, 1, 4, 1, 3]) (.tmp 14) (by kernel_rfl) (pt rfl 0 XH (by kernel_rfl)))
theorem FW : BG x1 x2 x4 x5 x10 H =
 (aj .other .eql x10 (vi 0)).bind fun a =>
 av a
 (lj x1 x2 x4 x5 x10 a H)
 ((aj .other .eql x10 (vi 1)).bind fun b =>
 lj x1 x2 x4 x5 x10 b H) :=
 (bt rfl (xh [1, 1, 0, 1, 4]) 0 E8 (pt rfl 0 ac3 (by kernel_rfl)))
theorem FU : BF x1 x2 x4 x5 H =
 ld [.f 0] x2 H fun b =>
 (FF bz [b, (vi 5)] H).bind fun a =>
 BG x1 x2 x4 x5 a.1 a.2 :=
 (pt rfl 0 r8 (pt rfl 0 ac1 (by kernel_rfl)))
noncomputable def agN : OV := be PP GG FF (xh []) (ls [x0, x1] 35) H uL bA uL
theorem N4 {r : Value × AH} (h : (
 aW (Value.cells x0).toList H fun a e =>
 aW [(vi 0), (vi 0), (vi 0), (vi 0)] e fun f b =>
 (ax 4 a b).bind fun g =>
 (FF sK [g] b).bind fun c =>
 aW [(vi 0), (vi 0), (vi 0), (vi 0)] c.2 fun d i =>
 (cH 4 d c.1 i).bind fun j =>
 BF x1 a f d j) = some r) : FF vL [x0, x1] H = some r :=
 fo (t := agN x0 x1 H) Tryz.func14 (by kernel_rfl) (Eq.trans (pt rfl 1 acZ (by kernel_rfl)) h)
theorem NZ {r : Value × AH} (h : (
 aW (Value.cells x0).toList H fun b j =>
 aW (Value.cells x1).toList j fun c a =>
 ld [.f 0] b a fun k =>
 ld [.f 0] c a fun l =>
 (aj .other .eql k l).bind fun d =>
 fc d true  [.f 2] b a fun m =>
 fc d true  [.f 2] c a fun n =>
 (gB d true (aj .other .eql m n)).bind fun o =>
 (aK d o (vb false)).bind fun e =>
 fc e true  [.f 3] b a fun p =>
 fc e true  [.f 3] c a fun q =>
 (gB e true (aj .other .eql p q)).bind fun s =>
 (aK e s (vb false)).bind fun g =>
 fc g true  [.f 1] b a fun t =>
 fc g true  [.f 1] c a fun w =>
 (gE g true a (FF fZ [t, w] a)).bind fun i =>
 (aK g i.1 (vb false)).bind fun y =>
 some (y, i.2)) = some r) : FF vJ [x0, x1] H = some r :=
 fo Tryz.func16 (by kernel_rfl) h
theorem Ok {r : Value × AH} (h : (
 (cL (some .u64) x0).bind fun a =>
 (cL (some .u64) x1).bind fun b =>
 (aj .other .rem a b).bind fun c =>
 (cL (some .i64) c).bind fun d =>
 some (d, H)) = some r) : FF bz [x0, x1] H = some r :=
 fo Tryz.func18 (by kernel_rfl) h
theorem Ge {r : Value × AH} (h : (
 (aj .other .lss x0 (vw 1)).bind fun a =>
 (gV a false x0).bind fun d =>
 (gB a false (aj .other .gtr d (vw 4611686018427387904))).bind fun e =>
 (aK a (vb true) e).bind fun b =>
 (gV b false x1).bind fun f =>
 (gB b false (aj .other .lss f (vi 1))).bind fun g =>
 (aK b (vb true) g).bind fun c =>
 (gV c false x1).bind fun i =>
 (gB c false (aj .other .gtr i (vi 65536))).bind fun j =>
 (aK c (vb true) j).bind fun k =>
 av k
 (some (Value.tuple #[(vw 0), (vb false)], H))
 ((cL (some .u64) x1).bind fun l =>
 (aj .other .quo x0 l).bind fun m =>
 (gk [m, (vw 1)]).bind fun n =>
 some (Value.tuple #[n, (vb true)], H))) = some r) : FF kG [x0, x1] H = some r :=
 fo Tryz.func19 (by kernel_rfl) h
theorem uD {r : Value × AH} (h : (
 ad [.n, .f 0] x0 fun b =>
 (aq b H).bind fun d =>
 (FF jB [x2, x3] H).bind fun c =>
 bT (aq b c.2) (aq b H) <|
 (FF dw [d, x1, c.1] c.2).bind fun a =>
 (aj .other .eql a.1 (vw 0)).bind fun e =>
 av e
 (some (Value.tuple #[(vi 0), (vi 0), (vb false)], a.2))
 ((aj .other .shr a.1 (vw 32)).bind fun g =>
 (cL (some .i64) g).bind fun i =>
 (aj .other .sub i (vi 1)).bind fun j =>
 (aj .other .and a.1 (vw 4294967295)).bind fun k =>
 (cL (some .i64) k).bind fun l =>
 some (Value.tuple #[j, l, (vb true)], a.2))) = some r) : FF f3 [x0, x1, x2, x3] H = some r :=
 fo Tryz.func20 (by kernel_rfl) h
theorem tm {r : Value × AH} (h : (
 ld [.n, .f 1] x0 H fun a =>
 (aj .other .rem x1 a).bind fun b =>
 ld [.n, .f 1] x0 H fun c =>
 (aj .other .add b c).bind fun d =>
 ld [.n, .f 1] x0 H fun e =>
 (aj .other .rem d e).bind fun g =>
 some (g, H)) = some r) : FF fw [x0, x1] H = some r :=
 fo Tryz.func21 (by kernel_rfl) h
theorem vU {r : Value × AH} (h : (
 aW [(vi 0), (vi 0), (vw 0)] H fun a g =>
 (FF f2 [x0, x2] g).bind fun b =>
 (pM .not b.1).bind fun j =>
 av j
 (gY [(0, 1), (1, 1), (2, 1)] [(vi 0), (vi 0), (vw 0)] [] fun k =>
 (cH 3 a k b.2).bind fun d =>
 (ax 3 a d).bind fun l => some (l, d))
 (ld [.n, .f 0] x0 b.2 fun m =>
 gY [(0, 1), (1, 1), (2, 1)] [(vi 0), (vi 0), (vi 0)] [(0, (vi 13)), (1, x2)] fun o =>
 (FF nh [m, x1, o] b.2).bind fun c =>
 ld [.n, .f 10] x0 c.2 fun p =>
 ldN 3 [.i 4 x2, .f 0] p c.2 fun q =>
 (cH 3 a q c.2).bind fun e =>
 (ax 3 a e).bind fun s => some (s, e))) = some r) : FF jw [x0, x1, x2] H = some r :=
 fo Tryz.func22 (by kernel_rfl) h
theorem uv {r : Value × AH} (h : (
 (FF f2 [x0, x1] H).bind fun a =>
 (pM .not a.1).bind fun b =>
 av b
 (some ((.pointer none), a.2))
 (ld [.n, .f 10] x0 a.2 fun c =>
 ld [.i 4 x1, .f 3] c a.2 fun d =>
 some (d, a.2))) = some r) : FF d8 [x0, x1] H = some r :=
 fo Tryz.func23 (by kernel_rfl) h
noncomputable def qR (p : List Nat) : Code := Code.sub (bH Tryz.f26) p
noncomputable def se : KK := dM PP (Tryz.f26).results.toList
noncomputable def adC : KK := CQ (qR [1, 1, 1]) se bA se
noncomputable def yB : OV := adC (ls [u, x1, x2, x3] 61) H
noncomputable def Qq : KK := CQ (qR [1, 1, 1, 1]) se bA se
noncomputable def Fp : KK := eG SU Qq
noncomputable def dt : OV := Qq (ls [u, u, x2, x3] 61) H
noncomputable def adE : KK := CQ (qR [1, 1, 1, 0, 1]) Fp bA se
noncomputable def yC : OV := adE (ls [u, x1, x2, x3, u, u, u, u, u, u, u, u, u, u, u, x15] 49) H
noncomputable def adI : KX := BX 0 Fp bA
noncomputable def Qr : KX := qQ SU adI
noncomputable def adG : KK := CQ (qR [1, 1, 1, 0, 1, 4, 1]) Fp Qr se
noncomputable def yD : OV := adG (ls [u, x1, x2, x3, u, u, u, u, u, u, u, u, u, u, u, x15, u, u, u, u, u, u, u, u, u, u, u, u, u, u, u, u, u, u, u, x35] 29) H
noncomputable def UJ : KK := CQ (qR [1, 1, 1, 0, 1, 4, 1, 3, 1]) Fp Qr se
noncomputable def uV : OV := UJ (ls [u, x1, x2, x3, u, u, u, u, u, u, u, u, u, u, u, x15, u, u, u, u, u, u, u, u, u, u, u, u, u, u, u, u, u, u, u, u, u, u, u, u, u, u, u, u, u, u, u, u, x48] 16) H
noncomputable def UK : KK := CQ (qR [1, 1, 1, 0, 1, 4, 1, 3, 1, 3, 1]) Fp Qr se
noncomputable def kL : OV := UK (ls [u, x1, x2, x3, u, u, u, u, u, u, u, u, u, u, u, x15, u, u, u, u, u, u, u, u, u, u, u, u, u, u, u, u, u, u, u, u, u, u, u, u, u, u, u, u, u, u, u, u, u, u, u, x51] 13) H
theorem nV : ar 36893488147419103227 se := rf
theorem adD : ar 36893488147419103217 adC := rc nV aB nV
theorem pk : ar SU Qq := rc nV aB nV
theorem adF : ar 36893488147419070449 adE := rc (cd pk) aB nV
theorem xu : ∀ i, ar SU (adI i) := rb (cd pk) aB
theorem adH : ar 36893488113059332081 adG := rc (cd pk) (cx xu) nV
theorem Yo : ar 36893206672442359793 UJ := rc (cd pk) (cx xu) nV
theorem Yp : ar 36891236347605385201 UK := rc (cd pk) (cx xu) nV
theorem CR : dt x2 x3 H =
 (ax 4 x3 H).bind fun b =>
 (cH 4 x2 b H).bind fun a =>
 (ax 4 x2 a).bind fun c => some (c, a) :=
 (by kernel_rfl)
theorem AB : kL x1 x2 x3 x15 x51 H =
 av x51
 (gY [(0, 1), (1, 1), (2, 1), (3, 1)] [(vi 0), (vi 0), (vi 0), (vi 0)] [(0, (vi 4))] fun j =>
 (cH 4 x3 j H).bind fun k =>
 dt x2 x3 k)
 ((aj .other .eql x15 (vi 8)).bind fun l =>
 av l
 (ld [.f 2] x1 H fun m =>
 (FF bz [m, (vi 6)] H).bind fun d =>
 gY [(0, 1), (1, 1), (2, 1), (3, 1)] [(vi 0), (vi 0), (vi 0), (vi 0)] [(0, (vi 5)), (2, d.1)] fun n =>
 (cH 4 x3 n d.2).bind fun o =>
 dt x2 x3 o)
 ((aj .other .eql x15 (vi 9)).bind fun p =>
 av p
 (gY [(0, 1), (1, 1), (2, 1), (3, 1)] [(vi 0), (vi 0), (vi 0), (vi 0)] [(0, (vi 6))] fun q =>
 (cH 4 x3 q H).bind fun s =>
 dt x2 x3 s)
 (ld [.f 2] x1 H fun t =>
 (FF bz [t, (vi 9)] H).bind fun a =>
 (aj .other .add (vi 1) a.1).bind fun w =>
 ad [.f 3] x1 fun c =>
 (aq c a.2).bind fun y =>
 bT (aq c H) (aq c a.2) <|
 (FF bz [y, (vi 1000)] a.2).bind fun e =>
 st 1 [.f 0] x3 (vi 3) e.2 fun z =>
 st 1 [.f 2] x3 w z fun A =>
 st 1 [.f 3] x3 e.1 A fun g =>
 ld [.f 2] x1 g fun B =>
 (FF bz [B, (vi 13)] g).bind fun b =>
 (aj .other .eql b.1 (vi 12)).bind fun C =>
 av C
 (ld [.f 2] x1 b.2 fun D =>
 (FF bz [D, (vi 65536)] b.2).bind fun i =>
 (aj .other .add (vi 1) i.1).bind fun E =>
 st 1 [.f 2] x3 E i.2 fun G =>
 dt x2 x3 G)
 (dt x2 x3 b.2)))) :=
 (by kernel_rfl)
theorem AA : uV x1 x2 x3 x15 x48 H =
 av x48
 (st 1 [.f 0] x3 (vi 2) H fun b =>
 dt x2 x3 b)
 ((aj .other .eql x15 (vi 6)).bind fun a =>
 av a
 (kL x1 x2 x3 x15 a H)
 ((aj .other .eql x15 (vi 7)).bind fun c =>
 kL x1 x2 x3 x15 c H)) :=
 (ct rfl (qR [1, 1, 1, 0, 1, 4, 1, 3, 1, 2]) (qR [1, 1, 1, 0, 1, 4, 1, 3, 1, 3]) (.tmp 48) (by kernel_rfl) (pt rfl 0 Yp (by kernel_rfl)))
theorem CT : yD x1 x2 x3 x15 x35 H =
 av x35
 (ld [.f 2] x1 H fun d =>
 (FF bz [d, (vi 5)] H).bind fun a =>
 (aj .other .add (vi 1) a.1).bind fun e =>
 ad [.f 3] x1 fun b =>
 (aq b a.2).bind fun g =>
 bT (aq b H) (aq b a.2) <|
 (FF bz [g, (vi 3)] a.2).bind fun c =>
 (aj .other .add (vi 1) c.1).bind fun i =>
 st 1 [.f 0] x3 (vi 1) c.2 fun j =>
 st 1 [.f 2] x3 e j fun k =>
 st 1 [.f 3] x3 i k fun l =>
 dt x2 x3 l)
 ((aj .other .eql x15 (vi 1)).bind fun m =>
 uV x1 x2 x3 x15 m H) :=
 (ct rfl (qR [1, 1, 1, 0, 1, 4, 1, 2]) (qR [1, 1, 1, 0, 1, 4, 1, 3]) (.tmp 35) (by kernel_rfl) (pt rfl 0 Yo (by kernel_rfl)))
theorem CS : yC x1 x2 x3 x15 H =
 (aj .other .eql x15 (vi 0)).bind fun a =>
 yD x1 x2 x3 x15 a H :=
 (bt rfl (qR [1, 1, 1, 0, 1, 4]) 0 xu (pt rfl 0 adH (by kernel_rfl)))
theorem CP : yB x1 x2 x3 H =
 ld [.f 0] x1 H fun b =>
 (FF bz [b, (vi 10)] H).bind fun a =>
 yC x1 x2 x3 a.1 a.2 :=
 (pt rfl 0 pk (pt rfl 0 adF (by kernel_rfl)))
noncomputable def Zs : OV := be PP GG FF (qR []) (ls [x0] 64) H se bA se
theorem Me {r : Value × AH} (h : (
 aW (Value.cells x0).toList H fun b j =>
 aW [(vi 0), (vi 0), (vi 0), (vi 0)] j fun c d =>
 ld [.f 1] b d fun k =>
 (FF bz [k, (vi 23)] d).bind fun a =>
 (aj .other .eql a.1 (vi 22)).bind fun l =>
 av l
 ((ax 4 b a.2).bind fun m =>
 (cH 4 c m a.2).bind fun e =>
 (ax 4 c e).bind fun n => some (n, e))
 (ld [.f 1] b a.2 fun o =>
 (FF bz [o, (vi 5)] a.2).bind fun g =>
 gY [(0, 1), (1, 1), (2, 1), (3, 1)] [(vi 0), (vi 0), (vi 0), (vi 0)] [(1, g.1)] fun p =>
 aW [(vi 0), (vi 0), (vi 0), (vi 0)] g.2 fun i q =>
 (cH 4 i p q).bind fun s =>
 yB b c i s)) = some r) : FF sK [x0] H = some r :=
 fo (t := Zs x0 H) Tryz.func26 (by kernel_rfl) (Eq.trans (pt rfl 2 adD (by kernel_rfl)) h)
end
section
variable (x0 x1 x2 x3 x4 x5 x6 x7 x8 x9 x10 x11 x12 x13 x14 x15 x16 x20 : Value) (H : AH)
noncomputable def ik (p : List Nat) : Code := Code.sub (bH Tryz.f28) p
noncomputable def iE : KK := dM PP (Tryz.f28).results.toList
noncomputable def adM : KK := CQ (ik [1, 1, 1, 1]) iE bA iE
noncomputable def ye : OV := adM (ls [u, x1, x2, x3, x4, x5, u, u, u, u, x10, x11, x12, x13, x14] 119) H
noncomputable def Qt : KK := CQ (ik [1, 1, 1, 1, 1]) iE bA iE
noncomputable def adJ : KK := eG SM Qt
noncomputable def qp : OV := Qt (ls [u, x1, u, u, u, u, u, u, u, u, x10, x11, x12, x13] 120) H
noncomputable def Qu : KK := CQ (ik [1, 1, 1, 1, 1, 1]) iE bA iE
noncomputable def adK : KK := eG abS Qu
noncomputable def yf : OV := Qu (ls [u, u, u, u, u, u, u, u, u, u, x10, x11] 122) H
noncomputable def adO : KK := CQ (ik [1, 1, 1, 1, 1, 0, 1]) adK bA iE
noncomputable def yg : OV := adO (ls [u, x1, u, u, u, u, u, u, u, u, x10, x11, x12, x13, u, u, u, u, u, u, x20] 113) H
noncomputable def Qx : KX := BX 2 adK bA
noncomputable def Lw : KX := qQ abS Qx
noncomputable def Qv : KK := Cb (ik [1, 1, 1, 1, 1, 0, 1, 4, 5]) Lw iE
noncomputable def adL : KK := eG PA Qv
noncomputable def ma : OV := Qv (ls [u, x1, u, u, u, u, u, u, u, u, x10, x11, x12, x13, u, u, u, u, u, u, x20] 113) H
noncomputable def adQ : KK := CQ (ik [1, 1, 1, 1, 1, 0, 1, 4, 5, 1]) adL Lw iE
noncomputable def yh : OV := adQ (ls [u, x1, u, u, u, u, u, u, u, u, x10, x11, x12, x13, u, u, u, u, u, u, x20] 113) H
noncomputable def Qw : KK := CQ (ik [1, 1, 1, 1, 1, 0, 1, 4, 5, 1, 1]) adL Lw iE
noncomputable def apL : KK := eG PA Qw
noncomputable def qq : OV := Qw (ls [u, x1, u, u, u, u, u, u, u, u, x10, x11, x12, x13, u, u, u, u, u, u, x20] 113) H
noncomputable def apM : KX := BX 3 apL Lw
noncomputable def sC : OV := Qx 2 (ls [u, u, u, u, u, u, u, u, u, u, x10, x11] 122) H
noncomputable def UP : KK := CQ (ik [1, 1, 1, 1, 0, 1]) adJ bA iE
noncomputable def uQ : OV := UP (ls [u, x1, x2, x3, x4, x5, u, u, u, u, x10, x11, x12, x13, x14, x15] 118) H
noncomputable def Lu : KX := BX 0 adJ bA
noncomputable def DS : KX := qQ SM Lu
noncomputable def Ls : KK := Cb (ik [1, 1, 1, 1, 0, 1, 4, 5]) DS iE
noncomputable def UO : KK := eG Nf Ls
noncomputable def kB : OV := Ls (ls [u, x1, x2, x3, x4, x5, u, u, u, u, x10, x11, x12, x13, x14, x15] 118) H
noncomputable def UQ : KK := CQ (ik [1, 1, 1, 1, 0, 1, 4, 5, 1]) UO DS iE
noncomputable def uR : OV := UQ (ls [u, x1, x2, x3, x4, x5, u, u, u, u, x10, x11, x12, x13, x14, x15] 118) H
noncomputable def Lt : KK := CQ (ik [1, 1, 1, 1, 0, 1, 4, 5, 1, 1]) UO DS iE
noncomputable def xx : KK := eG Nf Lt
noncomputable def iG : OV := Lt (ls [u, x1, x2, x3, x4, x5, u, u, u, u, x10, x11, x12, x13, x14, x15] 118) H
noncomputable def Lv : KX := BX 1 xx DS
noncomputable def DT : KX := qQ Nf Lv
noncomputable def UR : KK := CQ (ik [1, 1, 1, 1, 0, 1, 4, 5, 1, 0, 4, 1]) xx DT iE
noncomputable def uS : OV := UR (ls [u, x1, x2, x3, x4, x5, u, u, u, u, x10, x11, x12, x13, x14, x15, x16] 117) H
noncomputable def US : KK := CQ (ik [1, 1, 1, 1, 0, 1, 4, 5, 1, 0, 4, 1, 1]) xx DT iE
noncomputable def kC : OV := US (ls [u, x1, x2, x3, x4, x5, u, u, u, u, x10, x11, x12, x13, x14, x15, x16] 117) H
noncomputable def UT : KK := CQ (ik [1, 1, 1, 1, 0, 1, 4, 5, 1, 0, 4, 1, 1, 1, 1]) xx DT iE
noncomputable def kD : OV := UT (ls [u, x1, x2, x3, x4, x5, u, u, u, u, x10, x11, x12, x13, x14, x15, x16] 117) H
noncomputable def UU : KK := CQ (ik [1, 1, 1, 1, 0, 1, 4, 5, 1, 0, 4, 1, 1, 1, 1, 1]) xx DT iE
noncomputable def kE : OV := UU (ls [u, x1, x2, x3, x4, x5, u, u, u, u, x10, x11, x12, x13, x14, x15, x16] 117) H
noncomputable def iK : OV := Lv 1 (ls [u, x1, x2, x3, x4, x5, u, u, u, u, x10, x11, x12, x13, x14, x15] 118) H
noncomputable def qW : OV := Lu 0 (ls [u, x1, u, u, u, u, u, u, u, u, x10, x11, x12, x13] 120) H
theorem en : ar abS iE := rf
theorem adN : ar 21778071482940061661655974875633165501377 adM := rc en aB en
theorem Fq : ar SM Qt := rc en aB en
theorem Fs : ar abS Qu := rc en aB en
theorem adP : ar PA adO := rc (cd Fs) aB en
theorem sf : ∀ i, ar abS (Qx i) := rb (cd Fs) aB
theorem xy : ar PA Qv := rl (cx sf) en
theorem adR : ar PA adQ := rc (cd xy) (cx sf) en
theorem NR : ar PA Qw := rc (cd xy) (cx sf) en
theorem adS : ∀ i, ar PA (apM i) := rb (cd NR) (cx sf)
theorem Yu : ar Nf UP := rc (cd Fq) aB en
theorem pn : ∀ i, ar SM (Lu i) := rb (cd Fq) aB
theorem tZ : ar Nf Ls := rl (cx pn) en
theorem Yv : ar Nf UQ := rc (cd tZ) (cx pn) en
theorem mu : ar Nf Lt := rc (cd tZ) (cx pn) en
theorem pp : ∀ i, ar Nf (Lv i) := rb (cd mu) (cx pn)
theorem Yw : ar SN UR := rc (cd mu) (cx pp) en
theorem Yx : ar SN US := rc (cd mu) (cx pp) en
theorem Yy : ar SN UT := rc (cd mu) (cx pp) en
theorem Yz : ar SN UU := rc (cd mu) (cx pp) en
theorem Cy : yf x10 x11 H =
 some (Value.tuple #[(vb true), (vb true)], H) :=
 (by kernel_rfl)
theorem CB : qq x1 x10 x11 x12 x13 x20 H =
 (aj .other .add x20 (vi 1)).bind fun a =>
 ma x1 x10 x11 x12 x13 a H :=
 (by kernel_rfl)
theorem CA : yh x1 x10 x11 x12 x13 x20 H =
 ld [.a 4 3 x20, .f 2] x12 H fun c =>
 (aj .ptr .neq c (.pointer none)).bind fun b =>
 (gV b false x20).bind fun d =>
 fc b false  [.a 4 1 d] x13 H fun e =>
 (gV b false x1).bind fun g =>
 (gV b false x20).bind fun j =>
 fc b false  [.i 1 j] g H fun k =>
 (zM (yv b) false (eS k some) (some undef)).bind fun l =>
 (gB b false (aj .other .lss e l)).bind fun m =>
 (aK b (vb true) m).bind fun n =>
 av n
 (some (Value.tuple #[(vb false), (vb true)], H))
 (qq x1 x10 x11 x12 x13 x20 H) :=
 (pt rfl 0 NR (bt rfl (ik [1, 1, 1, 1, 1, 0, 1, 4, 5, 1, 0, 4]) 3 adS (by kernel_rfl)))
theorem yd : sC x10 x11 H = yf x10 x11 H :=
 (by kernel_rfl)
theorem qX : ma x1 x10 x11 x12 x13 x20 H =
 (aj .other .lss x20 (vi 4)).bind fun a =>
 (gV a true x20).bind fun b =>
 (gV a true x1).bind fun c =>
 (zM (yv a) true (eS c some) (some undef)).bind fun d =>
 (gB a true (aj .other .lss b d)).bind fun e =>
 (aK a e (vb false)).bind fun f =>
 av f
 (yh x1 x10 x11 x12 x13 x20 H)
 (sC x10 x11 H) :=
 CD rfl xy (pt rfl 0 adR (by kernel_rfl))
theorem Cz : yg x1 x10 x11 x12 x13 x20 H =
 ma x1 x10 x11 x12 x13 x20 H :=
 (bt rfl (ik [1, 1, 1, 1, 1, 0, 1, 4]) 2 sf (li rfl (ik [1, 1, 1, 1, 1, 0, 1, 4, 5]) xy (by kernel_rfl)))
theorem Cx : qp x1 x10 x11 x12 x13 H =
 yg x1 x10 x11 x12 x13 (vi 0) H :=
 (pt rfl 0 Fs (pt rfl 0 adP (by kernel_rfl)))
theorem Ai : iG x1 x2 x3 x4 x5 x10 x11 x12 x13 x14 x15 H =
 (aj .other .add x15 (vi 1)).bind fun a =>
 kB x1 x2 x3 x4 x5 x10 x11 x12 x13 x14 a H :=
 (by kernel_rfl)
theorem Am : kE x1 x2 x3 x4 x5 x10 x11 x12 x13 x14 x15 x16 H =
 ldN 3 [.a 4 3 x16] x12 H fun e =>
 (ax 2 x5 H).bind fun f =>
 (FF lD [e, f, x14] H).bind fun b =>
 (ag b.1 0).bind fun g =>
 (ag b.1 1).bind fun i =>
 (ag b.1 2).bind fun j =>
 aW [(vi 0), (.slice none 0 0), (vi 0), (vw 0)] b.2 fun k l =>
 (cH 4 k g l).bind fun c =>
 (pM .not j).bind fun m =>
 av m
 (some (Value.tuple #[(vb false), (vb false)], c))
 ((aj .other .add x14 (vi 1)).bind fun d =>
 av i
 (gY [(0, 1), (1, 1), (2, 1)] [(.pointer none), (.pointer none), (.pointer none)] [] fun n =>
 st 3 [.a 4 3 x16] x12 n c fun o =>
 iG x1 x2 x3 x4 x5 x10 x11 x12 x13 d x15 o)
 (iG x1 x2 x3 x4 x5 x10 x11 x12 x13 d x15 c)) :=
 (by kernel_rfl)
theorem nc : iK x1 x2 x3 x4 x5 x10 x11 x12 x13 x14 x15 H = iG x1 x2 x3 x4 x5 x10 x11 x12 x13 x14 x15 H :=
 (by kernel_rfl)
theorem Al : kD x1 x2 x3 x4 x5 x10 x11 x12 x13 x14 x15 x16 H =
 ld [.a 4 3 x16, .f 2] x12 H fun e =>
 (aj .ptr .eql e (.pointer none)).bind fun g =>
 av g
 (eS x1 fun j =>
 (aj .other .geq x16 j).bind fun b =>
 (gV b false x16).bind fun k =>
 fc b false  [.a 4 1 k] x13 H fun l =>
 (gV b false x1).bind fun m =>
 (gV b false x16).bind fun n =>
 fc b false  [.i 1 n] m H fun o =>
 (zM (yv b) false (eS o some) (some undef)).bind fun p =>
 (gB b false (aj .other .geq l p)).bind fun q =>
 (aK b (vb true) q).bind fun s =>
 av s
 (iK x1 x2 x3 x4 x5 x10 x11 x12 x13 x14 x15 H)
 ((ax 2 x5 H).bind fun t =>
 ld [.a 4 1 x16] x13 H fun w =>
 ld [.i 1 x16] x1 H fun y =>
 ld [.a 4 1 x16] x13 H fun z =>
 ldN 4 [.i 4 z] y H fun A =>
 (FF sH [t, x16, w, A] H).bind fun c =>
 st 3 [.a 4 3 x16] x12 c.1 c.2 fun d =>
 ld [.a 4 1 x16] x13 d fun B =>
 (aj .other .add B (vi 1)).bind fun C =>
 st 1 [.a 4 1 x16] x13 C d fun D =>
 kE x1 x2 x3 x4 x5 x10 x11 x12 x13 x14 x15 x16 D))
 (kE x1 x2 x3 x4 x5 x10 x11 x12 x13 x14 x15 x16 H) :=
 (pt rfl 0 Yz (by kernel_rfl))
theorem Ak : kC x1 x2 x3 x4 x5 x10 x11 x12 x13 x14 x15 x16 H =
 (aj .other .eql x16 (vi 8)).bind fun b =>
 (gV b true x4).bind fun c =>
 (aK b c (vb false)).bind fun d =>
 av d
 ((ax 2 x5 H).bind fun e =>
 (FF vM [e, x15] H).bind fun a =>
 (pM .not a.1).bind fun f =>
 av f
 (some (Value.tuple #[(vb false), (vb false)], a.2))
 (iK x1 x2 x3 x4 x5 x10 x11 x12 x13 x14 x15 a.2))
 ((aj .other .rem x16 (vi 4)).bind fun g =>
 kD x1 x2 x3 x4 x5 x10 x11 x12 x13 x14 x15 g H) :=
 (pt rfl 1 Yy (by kernel_rfl))
theorem Aj : uS x1 x2 x3 x4 x5 x10 x11 x12 x13 x14 x15 x16 H =
 eS x2 fun b =>
 (aj .other .lss x15 b).bind fun c =>
 av c
 (ld [.i 1 x15] x2 H fun d =>
 (FF bz [d, (vi 9)] H).bind fun a =>
 kC x1 x2 x3 x4 x5 x10 x11 x12 x13 x14 x15 a.1 a.2)
 (kC x1 x2 x3 x4 x5 x10 x11 x12 x13 x14 x15 x16 H) :=
 (pt rfl 0 Yx (by kernel_rfl))
theorem Ah : uR x1 x2 x3 x4 x5 x10 x11 x12 x13 x14 x15 H =
 (aj .other .rem x15 (vi 4)).bind fun a =>
 uS x1 x2 x3 x4 x5 x10 x11 x12 x13 x14 x15 a H :=
 (pt rfl 0 mu (bt rfl (ik [1, 1, 1, 1, 0, 1, 4, 5, 1, 0, 4]) 1 pp (pt rfl 0 Yw (by kernel_rfl))))
theorem vF : qW x1 x10 x11 x12 x13 H = qp x1 x10 x11 x12 x13 H :=
 (by kernel_rfl)
theorem pF : kB x1 x2 x3 x4 x5 x10 x11 x12 x13 x14 x15 H =
 (aj .other .lss x15 x3).bind fun a =>
 av a
 (uR x1 x2 x3 x4 x5 x10 x11 x12 x13 x14 x15 H)
 (qW x1 x10 x11 x12 x13 H) :=
 CD rfl tZ (pt rfl 0 Yv (by kernel_rfl))
theorem Ag : uQ x1 x2 x3 x4 x5 x10 x11 x12 x13 x14 x15 H =
 kB x1 x2 x3 x4 x5 x10 x11 x12 x13 x14 x15 H :=
 (bt rfl (ik [1, 1, 1, 1, 0, 1, 4]) 0 pn (li rfl (ik [1, 1, 1, 1, 0, 1, 4, 5]) tZ (by kernel_rfl)))
theorem Cw : ye x1 x2 x3 x4 x5 x10 x11 x12 x13 x14 H =
 uQ x1 x2 x3 x4 x5 x10 x11 x12 x13 x14 (vi 0) H :=
 (pt rfl 0 Fq (pt rfl 0 Yu (by kernel_rfl)))
noncomputable def Zc : OV := be PP GG FF (ik []) (ls [x0, x1, x2, x3, x4] 129) H iE bA iE
theorem LX {r : Value × AH} (h : (
 aW (Value.cells x0).toList H fun a b =>
 aW [(.pointer none), (.pointer none), (.pointer none), (.pointer none), (.pointer none), (.pointer none), (.pointer none), (.pointer none), (.pointer none), (.pointer none), (.pointer none), (.pointer none)] b fun c d =>
 aW [(vi 0), (vi 0), (vi 0), (vi 0)] d fun e f =>
 ye x1 x2 x3 x4 a (vb false) (vb false) c e (vi 0) f) = some r) : FF oc [x0, x1, x2, x3, x4] H = some r :=
 fo (t := Zc x0 x1 x2 x3 x4 H) Tryz.func28 (by kernel_rfl) (Eq.trans (pt rfl 3 adN (by kernel_rfl)) h)
noncomputable def uM (p : List Nat) : Code := Code.sub (bH Tryz.f29) p
noncomputable def sg : KK := dM PP (Tryz.f29).results.toList
noncomputable def adV : KK := CQ (uM [1, 1]) sg bA sg
noncomputable def xY : OV := adV (ls [x0, x1, u, u, x4, x5] 31) H
noncomputable def Qy : KK := CQ (uM [1, 1, 1]) sg bA sg
noncomputable def adT : KK := eG wX Qy
noncomputable def xZ : OV := Qy (ls [u, u, u, u, x4, x5] 31) H
noncomputable def adX : KK := CQ (uM [1, 1, 0, 1]) adT bA sg
noncomputable def ya : OV := adX (ls [x0, x1, u, u, x4, x5, x6] 30) H
noncomputable def QB : KX := BX 0 adT bA
noncomputable def Lx : KX := qQ wX QB
noncomputable def Qz : KK := Cb (uM [1, 1, 0, 1, 4, 5]) Lx sg
noncomputable def adU : KK := eG Bs Qz
noncomputable def lZ : OV := Qz (ls [x0, x1, u, u, x4, x5, x6] 30) H
noncomputable def adZ : KK := CQ (uM [1, 1, 0, 1, 4, 5, 1]) adU Lx sg
noncomputable def yb : OV := adZ (ls [x0, x1, u, u, x4, x5, x6] 30) H
noncomputable def QA : KK := CQ (uM [1, 1, 0, 1, 4, 5, 1, 1]) adU Lx sg
noncomputable def apN : KK := eG Bs QA
noncomputable def yc : OV := QA (ls [x0, x1, u, u, x4, x5, x6] 30) H
noncomputable def apO : KX := BX 1 apN Lx
noncomputable def jp : OV := QB 0 (ls [u, u, u, u, x4, x5] 31) H
theorem nW : ar 137438953455 sg := rf
theorem adW : ar 137438953420 adV := rc nW aB nW
theorem Ft : ar wX Qy := rc nW aB nW
theorem adY : ar Bs adX := rc (cd Ft) aB nW
theorem sj : ∀ i, ar wX (QB i) := rb (cd Ft) aB
theorem xz : ar Bs Qz := rl (cx sj) nW
theorem ad0 : ar Bs adZ := rc (cd xz) (cx sj) nW
theorem NS : ar Bs QA := rc (cd xz) (cx sj) nW
theorem ad1 : ∀ i, ar Bs (apO i) := rb (cd NS) (cx sj)
theorem qU : xZ x4 x5 H =
 some (x5, H) :=
 (by kernel_rfl)
theorem Cv : yc x0 x1 x4 x5 x6 H =
 (aj .other .add x6 (vi 1)).bind fun a =>
 lZ x0 x1 x4 x5 a H :=
 (by kernel_rfl)
theorem Cu : yb x0 x1 x4 x5 x6 H =
 (aj .other .rem x6 (vi 4)).bind fun d =>
 (aj .other .rem x6 (vi 4)).bind fun e =>
 ad [.i 1 e] x5 fun a =>
 (aq a H).bind fun f =>
 ldN 4 [.i 4 x6] x0 H fun g =>
 (FF vL [g, x6] H).bind fun b =>
 bT (aq a b.2) (aq a H) <|
 wL 1 4 [(vi 0), (vi 0), (vi 0), (vi 0)] [(0, b.1)] b.2 fun j k =>
 (dS 4 32 f j k).bind fun c =>
 st 1 [.i 1 d] x5 c.1 c.2 fun l =>
 yc x0 x1 x4 x5 x6 l :=
 (pt rfl 0 NS (bt rfl (uM [1, 1, 0, 1, 4, 5, 1, 0, 4]) 1 ad1 (by kernel_rfl)))
theorem n9 : jp x4 x5 H = xZ x4 x5 H :=
 (by kernel_rfl)
theorem qV : lZ x0 x1 x4 x5 x6 H =
 eS x0 fun b =>
 (aj .other .lss x6 b).bind fun a =>
 (gV a true x6).bind fun c =>
 (gV a true x1).bind fun d =>
 (gB a true (aj .other .lss c d)).bind fun e =>
 (aK a e (vb false)).bind fun f =>
 av f
 (yb x0 x1 x4 x5 x6 H)
 (jp x4 x5 H) :=
 CD rfl xz (pt rfl 0 ad0 (by kernel_rfl))
theorem Ct : ya x0 x1 x4 x5 x6 H =
 lZ x0 x1 x4 x5 x6 H :=
 (bt rfl (uM [1, 1, 0, 1, 4]) 0 sj (li rfl (uM [1, 1, 0, 1, 4, 5]) xz (by kernel_rfl)))
theorem Cs : xY x0 x1 x4 x5 H =
 ya x0 x1 x4 x5 (vi 0) H :=
 (pt rfl 0 Ft (pt rfl 0 adY (by kernel_rfl)))
noncomputable def Za : OV := be PP GG FF (uM []) (ls [x0, x1] 35) H sg bA sg
theorem LW {r : Value × AH} (h : (
 (nz [(.slice none 0 0)] 1 24 (vi 4) (vi 4) H).bind fun a =>
 xY x0 x1 (.slice none 0 0) a.1 a.2) = some r) : FF oa [x0, x1] H = some r :=
 fo (t := Za x0 x1 H) Tryz.func29 (by kernel_rfl) (Eq.trans (pt rfl 1 adW (by kernel_rfl)) h)
noncomputable def gn (p : List Nat) : Code := Code.sub (bH Tryz.f30) p
noncomputable def jj : KK := dM PP (Tryz.f30).results.toList
noncomputable def ad4 : KK := CQ (gn [1, 1]) jj bA jj
noncomputable def ahF : OV := ad4 (ls [x0, x1, x2, u, u, u, x6, x7] 61) H
noncomputable def QD : KK := CQ (gn [1, 1, 1]) jj bA jj
noncomputable def ad2 : KK := eG ST QD
noncomputable def ahG : OV := QD (ls [u, u, u, u, u, u, x6, x7] 61) H
noncomputable def ad6 : KK := CQ (gn [1, 1, 0, 1]) ad2 bA jj
noncomputable def ahH : OV := ad6 (ls [x0, x1, x2, u, u, u, x6, x7, x8] 60) H
noncomputable def QG : KX := BX 0 ad2 bA
noncomputable def LF : KX := qQ ST QG
noncomputable def QE : KK := Cb (gn [1, 1, 0, 1, 4, 5]) LF jj
noncomputable def ad3 : KK := eG HI QE
noncomputable def Ma : OV := QE (ls [x0, x1, x2, u, u, u, x6, x7, x8] 60) H
noncomputable def ad8 : KK := CQ (gn [1, 1, 0, 1, 4, 5, 1]) ad3 LF jj
noncomputable def ahI : OV := ad8 (ls [x0, x1, x2, u, u, u, x6, x7, x8] 60) H
noncomputable def QF : KK := CQ (gn [1, 1, 0, 1, 4, 5, 1, 1]) ad3 LF jj
noncomputable def QC : KK := eG HI QF
noncomputable def Rs : OV := QF (ls [x0, x1, x2, u, u, u, x6, x7, x8] 60) H
noncomputable def aeC : KX := BX 1 QC LF
noncomputable def aeD : KX := qQ HI aeC
noncomputable def aeA : KK := CQ (gn [1, 1, 0, 1, 4, 5, 1, 0, 4, 1]) QC aeD jj
noncomputable def ahJ : OV := aeA (ls [x0, x1, x2, u, u, u, x6, x7, x8, x9] 59) H
noncomputable def LD : KX := BX 2 QC aeD
noncomputable def DU : KX := qQ HI LD
noncomputable def Lz : KK := Cb (gn [1, 1, 0, 1, 4, 5, 1, 0, 4, 1, 4, 5]) DU jj
noncomputable def UV : KK := eG HJ Lz
noncomputable def D5 : OV := Lz (ls [x0, x1, x2, u, u, u, x6, x7, x8, x9] 59) H
noncomputable def UX : KK := CQ (gn [1, 1, 0, 1, 4, 5, 1, 0, 4, 1, 4, 5, 1]) UV DU jj
noncomputable def VD : OV := UX (ls [x0, x1, x2, u, u, u, x6, x7, x8, x9] 59) H
noncomputable def LA : KK := CQ (gn [1, 1, 0, 1, 4, 5, 1, 0, 4, 1, 4, 5, 1, 1]) UV DU jj
noncomputable def Ly : KK := eG HJ LA
noncomputable def L9 : OV := LA (ls [x0, x1, x2, u, u, u, x6, x7, x8, x9] 59) H
noncomputable def U0 : KX := BX 3 Ly DU
noncomputable def U1 : KX := qQ HJ U0
noncomputable def UY : KK := CQ (gn [1, 1, 0, 1, 4, 5, 1, 0, 4, 1, 4, 5, 1, 0, 4, 1, 1]) Ly U1 jj
noncomputable def VE : OV := UY (ls [x0, x1, x2, u, u, u, x6, x7, x8, x9, x10] 58) H
noncomputable def LE : KX := BX 4 Ly U1
noncomputable def DV : KX := qQ HJ LE
noncomputable def LB : KK := Cb (gn [1, 1, 0, 1, 4, 5, 1, 0, 4, 1, 4, 5, 1, 0, 4, 1, 1, 4, 5]) DV jj
noncomputable def UW : KK := eG Ez LB
noncomputable def D6 : OV := LB (ls [x0, x1, x2, u, u, u, x6, x7, x8, x9, x10] 58) H
noncomputable def UZ : KK := CQ (gn [1, 1, 0, 1, 4, 5, 1, 0, 4, 1, 4, 5, 1, 0, 4, 1, 1, 4, 5, 1]) UW DV jj
noncomputable def VF : OV := UZ (ls [x0, x1, x2, u, u, u, x6, x7, x8, x9, x10] 58) H
noncomputable def LC : KK := CQ (gn [1, 1, 0, 1, 4, 5, 1, 0, 4, 1, 4, 5, 1, 0, 4, 1, 1, 4, 5, 1, 1]) UW DV jj
noncomputable def al9 : KK := eG Ez LC
noncomputable def VG : OV := LC (ls [x0, x1, x2, u, u, u, x6, x7, x8, x9, x10] 58) H
noncomputable def amA : KX := BX 5 al9 DV
noncomputable def ud : OV := LE 4 (ls [x0, x1, x2, u, u, u, x6, x7, x8, x9] 59) H
noncomputable def Az : OV := LD 2 (ls [x0, x1, x2, u, u, u, x6, x7, x8] 60) H
noncomputable def Oe : OV := QG 0 (ls [u, u, u, u, u, u, x6, x7] 61) H
theorem fu : ar 590295810358705651647 jj := rf
theorem ad5 : ar 590295810358705651512 ad4 := rc fu aB fu
theorem Fu : ar ST QD := rc fu aB fu
theorem ad7 : ar HI ad6 := rc (cd Fu) aB fu
theorem sk : ∀ i, ar ST (QG i) := rb (cd Fu) aB
theorem xA : ar HI QE := rl (cx sk) fu
theorem ad9 : ar HI ad8 := rc (cd xA) (cx sk) fu
theorem xC : ar HI QF := rc (cd xA) (cx sk) fu
theorem Fv : ∀ i, ar HI (aeC i) := rb (cd xC) (cx sk)
theorem aeB : ar HJ aeA := rc (cd xC) (cx Fv) fu
theorem pr : ∀ i, ar HI (LD i) := rb (cd xC) (cx Fv)
theorem t3 : ar HJ Lz := rl (cx pr) fu
theorem YA : ar HJ UX := rc (cd t3) (cx pr) fu
theorem t4 : ar HJ LA := rc (cd t3) (cx pr) fu
theorem Ac : ∀ i, ar HJ (U0 i) := rb (cd t4) (cx pr)
theorem YB : ar Ez UY := rc (cd t4) (cx Ac) fu
theorem pw : ∀ i, ar HJ (LE i) := rb (cd t4) (cx Ac)
theorem t5 : ar Ez LB := rl (cx pw) fu
theorem YC : ar Ez UZ := rc (cd t5) (cx pw) fu
theorem I9 : ar Ez LC := rc (cd t5) (cx pw) fu
theorem YD : ∀ i, ar Ez (amA i) := rb (cd I9) (cx pw)
theorem Jp : ahG x6 x7 H =
 some (x7, H) :=
 (by kernel_rfl)
theorem Zm : Rs x0 x1 x2 x6 x7 x8 H =
 (aj .other .add x8 (vi 1)).bind fun a =>
 Ma x0 x1 x2 x6 x7 a H :=
 (by kernel_rfl)
theorem Rn : L9 x0 x1 x2 x6 x7 x8 x9 H =
 (aj .other .add x9 (vi 1)).bind fun a =>
 D5 x0 x1 x2 x6 x7 x8 a H :=
 (by kernel_rfl)
theorem Rq : VG x0 x1 x2 x6 x7 x8 x9 x10 H =
 (aj .other .add x10 (vi 1)).bind fun a =>
 D6 x0 x1 x2 x6 x7 x8 x9 a H :=
 (by kernel_rfl)
theorem Rp : VF x0 x1 x2 x6 x7 x8 x9 x10 H =
 ld [.i 1 x9] x0 H fun c =>
 (FF bz [c, x1] H).bind fun a =>
 wL 1 1 [(vi 0)] [(0, a.1)] a.2 fun d e =>
 (dS 1 8 x7 d e).bind fun b =>
 VG x0 x1 x2 x6 b.1 x8 x9 x10 b.2 :=
 (pt rfl 0 I9 (bt rfl (gn [1, 1, 0, 1, 4, 5, 1, 0, 4, 1, 4, 5, 1, 0, 4, 1, 1, 4, 5, 1, 0, 4]) 5 YD (by kernel_rfl)))
theorem yy : ud x0 x1 x2 x6 x7 x8 x9 H = L9 x0 x1 x2 x6 x7 x8 x9 H :=
 (by kernel_rfl)
theorem F9 : D6 x0 x1 x2 x6 x7 x8 x9 x10 H =
 ld [.i 1 x9] x0 H fun c =>
 (FF bz [c, (vi 7)] H).bind fun b =>
 (aj .other .rem x8 (vi 3)).bind fun d =>
 (aj .other .mul b.1 d).bind fun e =>
 (aj .other .lss x10 e).bind fun a =>
 (gV a true x7).bind fun f =>
 (zM (yv a) true (eS f some) (some undef)).bind fun g =>
 (gV a true x2).bind fun j =>
 (gB a true (aj .other .lss g j)).bind fun k =>
 (aK a k (vb false)).bind fun l =>
 av l
 (VF x0 x1 x2 x6 x7 x8 x9 x10 b.2)
 (ud x0 x1 x2 x6 x7 x8 x9 b.2) :=
 CD rfl t5 (pt rfl 0 YC (by kernel_rfl))
theorem Ro : VE x0 x1 x2 x6 x7 x8 x9 x10 H =
 D6 x0 x1 x2 x6 x7 x8 x9 x10 H :=
 (bt rfl (gn [1, 1, 0, 1, 4, 5, 1, 0, 4, 1, 4, 5, 1, 0, 4, 1, 1, 4]) 4 pw (li rfl (gn [1, 1, 0, 1, 4, 5, 1, 0, 4, 1, 4, 5, 1, 0, 4, 1, 1, 4, 5]) t5 (by kernel_rfl)))
theorem Rm : VD x0 x1 x2 x6 x7 x8 x9 H =
 ld [.i 1 x9] x0 H fun c =>
 (FF bz [c, x1] H).bind fun a =>
 wL 1 1 [(vi 0)] [(0, a.1)] a.2 fun d e =>
 (dS 1 8 x7 d e).bind fun b =>
 VE x0 x1 x2 x6 b.1 x8 x9 (vi 0) b.2 :=
 (pt rfl 0 t4 (bt rfl (gn [1, 1, 0, 1, 4, 5, 1, 0, 4, 1, 4, 5, 1, 0, 4]) 3 Ac (pt rfl 1 YB (by kernel_rfl))))
theorem L8 : Az x0 x1 x2 x6 x7 x8 H = Rs x0 x1 x2 x6 x7 x8 H :=
 (by kernel_rfl)
theorem Rl : D5 x0 x1 x2 x6 x7 x8 x9 H =
 eS x0 fun b =>
 (aj .other .lss x9 b).bind fun a =>
 (gV a true x7).bind fun c =>
 (zM (yv a) true (eS c some) (some undef)).bind fun d =>
 (gV a true x2).bind fun e =>
 (gB a true (aj .other .lss d e)).bind fun f =>
 (aK a f (vb false)).bind fun g =>
 av g
 (VD x0 x1 x2 x6 x7 x8 x9 H)
 (Az x0 x1 x2 x6 x7 x8 H) :=
 CD rfl t3 (pt rfl 0 YA (by kernel_rfl))
theorem Zn : ahJ x0 x1 x2 x6 x7 x8 x9 H =
 D5 x0 x1 x2 x6 x7 x8 x9 H :=
 (bt rfl (gn [1, 1, 0, 1, 4, 5, 1, 0, 4, 1, 4]) 2 pr (li rfl (gn [1, 1, 0, 1, 4, 5, 1, 0, 4, 1, 4, 5]) t3 (by kernel_rfl)))
theorem Zl : ahI x0 x1 x2 x6 x7 x8 H =
 ahJ x0 x1 x2 x6 x7 x8 (vi 0) H :=
 (pt rfl 0 xC (bt rfl (gn [1, 1, 0, 1, 4, 5, 1, 0, 4]) 1 Fv (pt rfl 0 aeB (by kernel_rfl))))
theorem BK : Oe x6 x7 H = ahG x6 x7 H :=
 (by kernel_rfl)
theorem Jq : Ma x0 x1 x2 x6 x7 x8 H =
 (aj .other .lss x8 (vi 40)).bind fun a =>
 (gV a true x0).bind fun b =>
 (zM (yv a) true (eS b some) (some undef)).bind fun c =>
 (gB a true (aj .other .gtr c (vi 0))).bind fun d =>
 (aK a d (vb false)).bind fun e =>
 av e
 (ahI x0 x1 x2 x6 x7 x8 H)
 (Oe x6 x7 H) :=
 CD rfl xA (pt rfl 0 ad9 (by kernel_rfl))
theorem Zk : ahH x0 x1 x2 x6 x7 x8 H =
 Ma x0 x1 x2 x6 x7 x8 H :=
 (bt rfl (gn [1, 1, 0, 1, 4]) 0 sk (li rfl (gn [1, 1, 0, 1, 4, 5]) xA (by kernel_rfl)))
theorem Zj : ahF x0 x1 x2 x6 x7 H =
 ahH x0 x1 x2 x6 x7 (vi 0) H :=
 (pt rfl 0 Fu (pt rfl 0 ad7 (by kernel_rfl)))
noncomputable def pMa : OV := be PP GG FF (gn []) (ls [x0, x1, x2] 66) H jj bA jj
theorem apY {r : Value × AH} (h : (
 ahF x0 x1 x2 (.slice none 0 0) (.slice none 0 0) H) = some r) : FF Vz [x0, x1, x2] H = some r :=
 fo (t := pMa x0 x1 x2 H) Tryz.func30 (by kernel_rfl) (Eq.trans (pt rfl 1 ad5 (by kernel_rfl)) h)
theorem ym {r : Value × AH} (h : (
 ld [.n, .f 1] x0 H fun b =>
 (FF ag5 [b] H).bind fun a =>
 some (a.1, a.2)) = some r) : FF g7 [x0] H = some r :=
 fo Tryz.func32 (by kernel_rfl) h
theorem zu {r : Value × AH} (h : (
 ad [.n, .f 0] x0 fun a =>
 (aq a H).bind fun d =>
 (FF ef [x0, (vi 11), (vi 0)] H).bind fun b =>
 bT (aq a b.2) (aq a H) <|
 (FF dw [d, x1, b.1] b.2).bind fun c =>
 some (c.1, c.2)) = some r) : FF fM [x0, x1] H = some r :=
 fo Tryz.func40 (by kernel_rfl) h
theorem Mb {r : Value × AH} (h : (
 aW (Value.cells x0).toList H fun a m =>
 (ax 5 a m).bind fun n =>
 (FF oS [n] m).bind fun j =>
 (pM .not j.1).bind fun o =>
 av o
 (some (Value.tuple #[(.pointer none), (vi 1)], j.2))
 ((FF Au [] j.2).bind fun b =>
 ld [.f 0] a b.2 fun p =>
 (FF sF [b.1, p] b.2).bind fun c =>
 ad [.f 0] a fun k =>
 (aq k c.2).bind fun q =>
 bT (aq k b.2) (aq k c.2) <|
 ad [.f 1] a fun l =>
 (aq l c.2).bind fun s =>
 bT (aq l b.2) (aq l c.2) <|
 (FF sQ [b.1, q, s] c.2).bind fun d =>
 ad [.f 2] a fun i =>
 (aq i d.2).bind fun t =>
 bT (aq i b.2) (aq i d.2) <|
 bT (aq i c.2) (aq i d.2) <|
 (FF vN [b.1, t] d.2).bind fun e =>
 (ax 5 a e.2).bind fun w =>
 bT (ax 5 a b.2) (ax 5 a e.2) <|
 bT (ax 5 a c.2) (ax 5 a e.2) <|
 bT (ax 5 a d.2) (ax 5 a e.2) <|
 (FF vH [w] e.2).bind fun g =>
 (ax 5 a g.2).bind fun y =>
 bT (ax 5 a b.2) (ax 5 a g.2) <|
 bT (ax 5 a c.2) (ax 5 a g.2) <|
 bT (ax 5 a d.2) (ax 5 a g.2) <|
 bT (ax 5 a e.2) (ax 5 a g.2) <|
 HW g.2 fun z A =>
 gY [(0, 1), (1, 1), (2, 1), (3, 1), (4, 1), (5, 5), (10, 1), (11, 1), (12, 1)] [(.pointer none), (.pointer none), (.pointer none), (.pointer none), (.pointer none), (vi 0), (vi 0), (vi 0), (vi 0), (vw 0), (.slice none 0 0), (.map none), (.slice none 0 0)] [(0, b.1), (1, c.1), (2, d.1), (3, e.1), (4, g.1), (5, y), (7, z)] fun B =>
 aW (Value.cells B).toList A fun C D =>
 some (Value.tuple #[C, (vi 0)], D))) = some r) : FF sI [x0] H = some r :=
 fo Tryz.func44 (by kernel_rfl) h
theorem Dk {r : Value × AH} (h : (
 aW (Value.cells x0).toList H fun a m =>
 gY [(0, 1), (1, 1), (2, 1)] [(.slice none 0 0), (.slice none 0 0), (.slice none 0 0)] [] fun n =>
 aW (Value.cells n).toList m fun i b =>
 (ax 5 a b).bind fun o =>
 ld [.f 0] a b fun p =>
 (FF np [i, p] b).bind fun c =>
 bT (ax 5 a c.2) (ax 5 a b) <|
 ad [.f 0] a fun j =>
 (aq j c.2).bind fun q =>
 bT (aq j b) (aq j c.2) <|
 ad [.f 1] a fun k =>
 (aq k c.2).bind fun s =>
 bT (aq k b) (aq k c.2) <|
 (FF nr [i, q, s] c.2).bind fun d =>
 bT (ax 5 a d.2) (ax 5 a b) <|
 ad [.f 2] a fun g =>
 (aq g d.2).bind fun t =>
 bT (aq g b) (aq g d.2) <|
 bT (aq g c.2) (aq g d.2) <|
 (FF oV [i, t] d.2).bind fun e =>
 bT (ax 5 a e.2) (ax 5 a b) <|
 (ax 5 a e.2).bind fun w =>
 bT (ax 5 a b) (ax 5 a e.2) <|
 bT (ax 5 a c.2) (ax 5 a e.2) <|
 bT (ax 5 a d.2) (ax 5 a e.2) <|
 (FF oU [w] e.2).bind fun l =>
 bT (ax 5 a l.2) (ax 5 a b) <|
 gY [(0, 5), (5, 1), (6, 1), (7, 1), (8, 1), (9, 1), (10, 1), (11, 1), (12, 1), (13, 1)] [(vi 0), (vi 0), (vi 0), (vi 0), (vw 0), (.pointer none), (.pointer none), (.pointer none), (.pointer none), (.pointer none), (.slice none 0 0), (.slice none 0 0), (.slice none 0 0), (.slice none 0 0)] [(0, o), (1, i), (2, c.1), (3, d.1), (4, e.1), (5, l.1)] fun y =>
 aW (Value.cells y).toList l.2 fun z A =>
 some (z, A)) = some r) : FF nq [x0] H = some r :=
 fo Tryz.func45 (by kernel_rfl) h
theorem Cp {r : Value × AH} (h : (
 aW (Value.cells x0).toList H fun i l =>
 ld [.f 1] i l fun s =>
 ldN 5 [.n, .f 0] s l fun t =>
 aW [(vi 0), (vi 0), (vi 0), (vi 0), (vw 0)] l fun g w =>
 (cH 5 g t w).bind fun p =>
 ld [.f 4] g p fun y =>
 (FF kG [y, x2] p).bind fun m =>
 (ag m.1 0).bind fun z =>
 (ag m.1 1).bind fun a3 =>
 gY [(0, 1), (1, 1), (2, 1)] [(vi 0), (vi 0), (vw 0)] [(0, x1), (1, x3), (2, z)] fun A =>
 aW [(vi 0), (vi 0), (vw 0)] m.2 fun j B =>
 (cH 3 j A B).bind fun k =>
 ld [.f 0] i k fun C =>
 (ax 3 j k).bind fun D =>
 (FF d7 [C, (vi 0), D] k).bind fun d =>
 ad [.f 1] i fun o =>
 (aq o d.2).bind fun E =>
 bT (aq o k) (aq o d.2) <|
 (ax 3 j d.2).bind fun G =>
 bT (ax 3 j k) (ax 3 j d.2) <|
 (FF g9 [E, (vi 0), G] d.2).bind fun c =>
 (aj .other .eql d.1 c.1).bind fun a =>
 fc a true  [.f 0] i c.2 fun I =>
 fc a true  [.n, .f 2] I c.2 fun J =>
 (gV a true x1).bind fun K =>
 fc a true  [.f 0] g c.2 fun L =>
 (gB a true (aj .other .rem K L)).bind fun M =>
 (gV a true x1).bind fun N =>
 fc a true  [.f 0] g c.2 fun O =>
 (gB a true (aj .other .quo N O)).bind fun P =>
 (gV a true x1).bind fun Q =>
 (gV a true d.1).bind fun R =>
 (gE a true c.2 (FF gv [J, (vi 0), M, P, Q, R] c.2)).bind fun e =>
 (aK a e.1 (vb false)).bind fun b =>
 fc b true  [.f 1] i e.2 fun S =>
 fc b true  [.n, .f 7] S e.2 fun T =>
 (gV b true x1).bind fun U =>
 fc b true  [.f 0] g e.2 fun V =>
 (gB b true (aj .other .rem U V)).bind fun W =>
 (gV b true x1).bind fun X =>
 fc b true  [.f 0] g e.2 fun Y =>
 (gB b true (aj .other .quo X Y)).bind fun Z =>
 (gV b true x1).bind fun a0 =>
 (gV b true c.1).bind fun a1 =>
 (gE b true e.2 (FF iP [T, (vi 0), W, Z, a0, a1] e.2)).bind fun q =>
 (aK b q.1 (vb false)).bind fun a2 =>
 some (a2, q.2)) = some r) : FF ng [x0, x1, x2, x3] H = some r :=
 fo Tryz.func46 (by kernel_rfl) h
noncomputable def aeQ (p : List Nat) : Code := Code.sub (bH Tryz.f47) p
noncomputable def Fz : KK := dM PP (Tryz.f47).results.toList
noncomputable def aeR : KK := CQ (aeQ [1, 1, 1]) Fz bA Fz
noncomputable def xX : OV := aeR (ls [u, x1, u, u, x4, u, u, x7, x8, x9] 26) H
noncomputable def aeT : KK := CQ (aeQ [1, 1, 1, 1]) Fz bA Fz
noncomputable def qo : OV := aeT (ls [u, u, u, u, u, u, u, u, x8, x9] 26) H
theorem DX : ar 68719476479 Fz := rf
theorem aeS : ar 68719475821 aeR := rc DX aB DX
theorem aeU : ar 68719475967 aeT := rc DX aB DX
theorem qT : qo x8 x9 H =
 (ax 3 x9 H).bind fun b =>
 (cH 3 x8 b H).bind fun a =>
 (ax 3 x8 a).bind fun c => some (c, a) :=
 (by kernel_rfl)
theorem qS : xX x1 x4 x7 x8 x9 H =
 ld [.f 0] x7 H fun c =>
 (aj .other .eql c (vi 3)).bind fun d =>
 av d
 (ld [.f 0] x4 H fun e =>
 (ax 4 x7 H).bind fun g =>
 (FF At [e, x1, g] H).bind fun a =>
 st 1 [.f 0] x9 a.1 a.2 fun i =>
 qo x8 x9 i)
 (ld [.f 0] x4 H fun j =>
 (ax 4 x7 H).bind fun k =>
 (FF Ax [j, x1, k] H).bind fun b =>
 st 1 [.f 1] x9 b.1 b.2 fun l =>
 qo x8 x9 l) :=
 (pt rfl 0 aeU (by kernel_rfl))
noncomputable def Y9 : OV := be PP GG FF (aeQ []) (ls [x0, x1, x2, x3] 32) H Fz bA Fz
theorem LV {r : Value × AH} (h : (
 aW (Value.cells x0).toList H fun a i =>
 aW (Value.cells x3).toList i fun c j =>
 aW [(.pointer none), (.pointer none), (.pointer none)] j fun k d =>
 (ax 2 a d).bind fun l =>
 (FF kf [l, x1, x2] d).bind fun b =>
 ld [.f 1] a b.2 fun m =>
 (ax 4 c b.2).bind fun n =>
 (FF kH [m, x1, n] b.2).bind fun e =>
 gY [(0, 1), (1, 1), (2, 1)] [(.pointer none), (.pointer none), (.pointer none)] [(2, e.1)] fun o =>
 aW [(.pointer none), (.pointer none), (.pointer none)] e.2 fun g p =>
 (cH 3 g o p).bind fun q =>
 xX x1 a c k g q) = some r) : FF sH [x0, x1, x2, x3] H = some r :=
 fo (t := Y9 x0 x1 x2 x3 H) Tryz.func47 (by kernel_rfl) (Eq.trans (pt rfl 2 aeS (by kernel_rfl)) h)
noncomputable def U4 (p : List Nat) : Code := Code.sub (bH Tryz.f48) p
noncomputable def FA : KK := dM PP (Tryz.f48).results.toList
noncomputable def aeV : KK := CQ (U4 [1, 1, 1]) FA bA FA
noncomputable def pD : OV := aeV (ls [u, u, x2, x3, x4, u, x6, x7, x8, x9, x10, x11] 62) H
noncomputable def QM : KK := CQ (U4 [1, 1, 1, 1]) FA bA FA
noncomputable def apP : KK := eG abP QM
noncomputable def gX : OV := QM (ls [u, u, u, x3, x4, u, x6, x7, x8, x9, x10, x11] 62) H
noncomputable def amD : KX := BX 0 apP bA
theorem DY : ar 18889465931478580854335 FA := rf
theorem aeW : ar 18889465931478580850723 aeV := rc DY aB DY
theorem NT : ar abP QM := rc DY aB DY
theorem YG : ∀ i, ar abP (amD i) := rb (cd NT) aB
theorem ur : gX x3 x4 x6 x7 x8 x9 x10 x11 H =
 (ax 4 x9 H).bind fun m =>
 (aj .bool .eql x10 x11).bind fun d =>
 (gB d true (ax 4 x9 H)).bind fun o =>
 fc d true  [.f 2] x3 H fun p =>
 (gV d true x11).bind fun q =>
 (gE d true H (FF qt [p, q] H)).bind fun e =>
 bT (ax 4 x9 e.2) (ax 4 x9 H) <|
 bT (ax 4 x9 e.2) (ax 4 x9 H) <|
 (gE d true e.2 (FF vJ [o, e.1] e.2)).bind fun c =>
 bT (ax 4 x9 c.2) (ax 4 x9 H) <|
 (aK d c.1 (vb false)).bind fun a =>
 fc a true  [.f 0] x4 c.2 fun s =>
 fc a true  [.n, .f 0] s c.2 fun t =>
 (gE a true c.2 (FF kF [t] c.2)).bind fun b =>
 bT (ax 4 x9 b.2) (ax 4 x9 H) <|
 LQ a true  [.f 1] x4 fun g =>
 (gB a true (aq g b.2)).bind fun w =>
 bT (aq g c.2) (aq g b.2) <|
 LQ a true  [.n, .f 5] w fun i =>
 (gB a true (aq i b.2)).bind fun y =>
 bT (aq i c.2) (aq i b.2) <|
 LQ a true  [.n, .f 2] y fun j =>
 (gB a true (aq j b.2)).bind fun k =>
 bT (aq j c.2) (aq j b.2) <|
 (zM (yv a) true (eS k some) (some undef)).bind fun z =>
 bT (amL k) (amL k) <|
 (gB a true (aj .other .eql b.1 z)).bind fun A =>
 (aK a A (vb false)).bind fun B =>
 (cH 4 x6 m b.2).bind fun l =>
 bT (aq g l) (aq g b.2) <|
 bT (aq i l) (aq i b.2) <|
 bT (aq j l) (aq j b.2) <|
 bT (amL k) (amL k) <|
 (ax 4 x6 l).bind fun C => some (Value.tuple #[C, x11, B], l) :=
 (by kernel_rfl)
theorem lL : pD x2 x3 x4 x6 x7 x8 x9 x10 x11 H =
 ld [.f 0] x3 H fun j =>
 (aj .ptr .neq j (.pointer none)).bind fun k =>
 av k
 (ld [.f 0] x3 H fun l =>
 (FF As [l, x2] H).bind fun a =>
 (ag a.1 0).bind fun m =>
 (ag a.1 1).bind fun n =>
 (cH 4 x9 m a.2).bind fun c =>
 ld [.f 2] x3 c fun o =>
 (FF e6 [o, x2] c).bind fun d =>
 gX x3 x4 x6 x7 x8 x9 n d.1 d.2)
 (ld [.f 1] x3 H fun p =>
 (aj .ptr .neq p (.pointer none)).bind fun q =>
 av q
 (ld [.f 1] x3 H fun s =>
 (FF ny [s, x2] H).bind fun b =>
 (ag b.1 0).bind fun t =>
 (ag b.1 1).bind fun w =>
 (cH 4 x9 t b.2).bind fun e =>
 ld [.f 2] x3 e fun y =>
 (FF bo [y, x2] e).bind fun g =>
 gX x3 x4 x6 x7 x8 x9 w g.1 g.2)
 ((ax 4 x9 H).bind fun z =>
 (cH 4 x6 z H).bind fun i =>
 (ax 4 x6 i).bind fun A => some (Value.tuple #[A, (vb false), (vb false)], i))) :=
 (pt rfl 0 NT (bt rfl (U4 [1, 1, 1, 0, 4]) 0 YG (by kernel_rfl)))
noncomputable def HT : OV := be PP GG FF (U4 []) (ls [x0, x1, x2] 71) H FA bA FA
theorem pE {r : Value × AH} (h : (
 aW (Value.cells x0).toList H fun a b =>
 aW (Value.cells x1).toList b fun c d =>
 aW [(vi 0), (.slice none 0 0), (vi 0), (vw 0)] d fun e f =>
 aW [(vi 0), (.slice none 0 0), (vi 0), (vw 0)] f fun g i =>
 pD x2 a c e (vb false) (vb false) g (vb false) (vb false) i) = some r) : FF lD [x0, x1, x2] H = some r :=
 fo (t := HT x0 x1 x2 H) Tryz.func48 (by kernel_rfl) (Eq.trans (pt rfl 2 aeW (by kernel_rfl)) h)
theorem pB {r : Value × AH} (h : (
 (FF sE [x0, x1, (.func (.func oR) #[] #[])] H).bind fun a =>
 some (a.1, a.2)) = some r) : FF fZ [x0, x1] H = some r :=
 fo Tryz.func49 (by kernel_rfl) h
theorem CF {r : Value × AH} (h : (
 aW (Value.cells x2).toList H fun a b =>
 (ax 3 a b).bind fun e =>
 (FF dx [x0, x1, (vi 1), e] b).bind fun c =>
 (ax 3 a c.2).bind fun f =>
 (FF fG [x0, f] c.2).bind fun d =>
 some (d.1, d.2)) = some r) : FF dw [x0, x1, x2] H = some r :=
 fo Tryz.func56 (by kernel_rfl) h
theorem Ix {r : Value × AH} (h : (
 aW [(vi 0), (vi 0), (vi 0)] H fun a c =>
 gY [(0, 1), (1, 1), (2, 1)] [(vi 0), (vi 0), (vi 0)] [(0, (vi 10)), (1, x0), (2, x1)] fun d =>
 (cH 3 a d c).bind fun b =>
 (ax 3 a b).bind fun e => some (e, b)) = some r) : FF jB [x0, x1] H = some r :=
 fo Tryz.func57 (by kernel_rfl) h
theorem ux {r : Value × AH} (h : (
 (aj .other .geq x1 (vi 0)).bind fun a =>
 (gV a true x1).bind fun b =>
 (gV a true x0).bind fun c =>
 fc a true  [.n, .f 10] c H fun d =>
 (zM (yv a) true (eS d some) (some undef)).bind fun e =>
 (gB a true (aj .other .lss b e)).bind fun g =>
 (aK a g (vb false)).bind fun i =>
 some (i, H)) = some r) : FF f2 [x0, x1] H = some r :=
 fo Tryz.func58 (by kernel_rfl) h
theorem CH {r : Value × AH} (h : (
 aW (Value.cells x2).toList H fun b a =>
 (ax 3 b a).bind fun c =>
 (FF dx [x0, x1, (vi 5), c] a).bind fun d =>
 some (Value.tuple #[], d.2)) = some r) : FF nh [x0, x1, x2] H = some r :=
 fo Tryz.func59 (by kernel_rfl) h
theorem xW {r : Value × AH} (h : (
 aW (Value.cells x0).toList H fun a b =>
 ld [.f 0] a b fun d =>
 (FF ix [d, x1, x2] b).bind fun c =>
 ld [.f 1] a c.2 fun e =>
 (FF jz [e, x1, x2] c.2).bind fun g =>
 some (Value.tuple #[], g.2)) = some r) : FF kf [x0, x1, x2] H = some r :=
 fo Tryz.func60 (by kernel_rfl) h
theorem P4 {r : Value × AH} (h : (
 aW (Value.cells x2).toList H fun b a =>
 (ax 4 b a).bind fun e =>
 ld [.n, .f 2] x0 a fun g =>
 ld [.f 1] b a fun i =>
 (FF fw [g, i] a).bind fun c =>
 bT (ax 4 b c.2) (ax 4 b a) <|
 gY [(0, 1), (1, 1), (2, 4), (6, 1), (7, 1), (8, 1), (9, 1), (10, 1), (11, 1), (12, 1), (13, 1), (14, 1), (15, 1)] [(.pointer none), (vi 0), (vi 0), (vi 0), (vi 0), (vi 0), (vi 0), Value.nilFunc, (vi 0), (vi 0), (vb false), (.pointer none), (vw 0), (vw 0), (vi 0), (vw 0)] [(0, x0), (1, x1), (2, e), (3, c.1)] fun j =>
 aW (Value.cells j).toList c.2 fun d k =>
 st 1 [.n, .f 7] d (.func (.func ne) #[d] #[]) k fun l =>
 some (d, l)) = some r) : FF At [x0, x1, x2] H = some r :=
 fo Tryz.func61 (by kernel_rfl) h
theorem s8 {r : Value × AH} (h : (
 aW (Value.cells x2).toList H fun b a =>
 (ax 4 b a).bind fun c =>
 gY [(0, 1), (1, 1), (2, 4), (6, 1), (7, 1), (8, 1), (9, 1), (10, 1), (11, 1), (12, 1), (13, 1), (14, 1), (15, 1), (16, 1), (17, 4), (21, 1), (22, 1), (23, 1), (24, 1), (25, 1), (26, 3), (29, 1), (30, 4)] [(.pointer none), (vi 0), (vi 0), (vi 0), (vi 0), (vi 0), (vi 0), (vi 0), (vi 0), (vb false), (vi 0), (vw 0), (vw 0), (vw 0), (vw 0), (vw 0), (vi 0), (vi 0), (.slice none 0 0), (vi 0), (vw 0), (vi 0), (vi 0), (.slice none 0 0), (vw 0), (vw 0), (vi 0), (vi 0), (vi 0), (vb false), (vi 0), (.slice none 0 0), (vi 0), (vw 0)] [(0, x0), (1, x1), (2, c), (5, (vi (-1)))] fun d =>
 aW (Value.cells d).toList a fun e f =>
 some (e, f)) = some r) : FF kH [x0, x1, x2] H = some r :=
 fo Tryz.func62 (by kernel_rfl) h
theorem PK {r : Value × AH} (h : (
 aW [(vi 0), (.slice none 0 0), (vi 0), (vw 0)] H fun b d =>
 ld [.n, .f 7] x0 d fun g =>
 (di g [x1]).bind fun c => (FF c.1 c.2 d).bind fun a =>
 (ag a.1 0).bind fun i =>
 (ag a.1 1).bind fun j =>
 (cH 4 b i a.2).bind fun e =>
 (ax 4 b e).bind fun k => some (Value.tuple #[k, j], e)) = some r) : FF As [x0, x1] H = some r :=
 fo Tryz.func63 (by kernel_rfl) h
end
end Go.Proofs.YtghoamdlcjdfjaaGreatDoor.Gst
