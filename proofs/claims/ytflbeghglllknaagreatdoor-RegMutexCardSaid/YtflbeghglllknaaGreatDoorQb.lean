/- Several texts in one. -/
import Derived.Test.YtflbeghglllknaaGreatDoorQa
namespace Go.Proofs.YtflbeghglllknaaGreatDoor.Gst
open Go Go.RowKit
set_option linter.unusedSimpArgs false
def sV (ops : List Oper) : Bool :=
 let ms := ce ops
 ops.zipIdx.all (fun p => p.1.after.toList.all fun e => !Region.binds .any e || decide (e.on < p.2)) &&
 ops.zipIdx.all fun q => (ops.zipIdx.take q.2).all fun p => fb ms p.2 q.2 || (p.1.apart ops.toArray q.1 && !(kG p.1.op == 3 && kG q.1.op == 3))
def dR (ops : List Oper) : List (Nat × Nat) :=
 let ms := ce ops
 (ops.zipIdx.filter fun p => kG p.1.op == 2).flatMap fun p => ((ops.zipIdx.filter fun q => kG q.1.op == 3 && !fb ms q.2 p.2 && !fb ms p.2 q.2).map fun q => (p.2, q.2))
def jB (P : Program) (G : List Nat) (call : bE) (ops : Array Oper) (A : List Value) (H : AH) (i : Nat) : List Value × AH := (de P G call ops (ops.toList.take i) A H).getD (A, H)
def jG (P : Program) (s : Nat → List Value × AH) (ops : Array Oper) (p : Nat × Nat) : Prop :=
 ∀ o, ops[p.1]? = some o → A4 P (fM (s p.1).1) o.op (s (if p.2 < p.1 then p.2 else p.2 + 1)).2 = A4 P (fM (s p.1).1) o.op (s p.1).2
open Classical in
noncomputable def IQ {α : Type} (p : Prop) (x : Option α) : Option α := if p then x else none
theorem nO {α : Type} {p : Prop} {x : Option α} {r : α} (h : IQ p x = some r) : p ∧ x = some r := by
 unfold IQ at h
 split at h
 ·exact ⟨by assumption, h⟩
 ·cases h
theorem ko {α : Type} {p : Prop} (h : p) (x : Option α) : IQ p x = x := by unfold IQ; rw [if_pos h]
noncomputable def mI (P : Program) (G : List Nat) (call : bE) (ops : Array Oper) (A : List Value) (H : AH) : Option (List Value × AH) :=
 match sV ops.toList with
 | false => none
 | true => match dR ops.toList with
  | [] => de P G call ops ops.toList A H
  | p :: ps => IQ (∀ q ∈ p :: ps, jG P (jB P G call ops A H) ops q) (de P G call ops ops.toList A H)
theorem gk {P : Program} {G : List Nat} {call : bE} {ops : Array Oper} {A : List Value} {H : AH} {r : List Value × AH} (h : mI P G call ops A H = some r) :
 sV ops.toList = true ∧ (∀ p ∈ dR ops.toList, jG P (jB P G call ops A H) ops p) ∧ de P G call ops ops.toList A H = some r := by
 unfold mI at h
 cases h1 : sV ops.toList with
 | false => rw [h1] at h; cases h
 | true =>
  rw [h1] at h;refine ⟨rfl, ?_⟩
  cases h2 : dR ops.toList with
  | nil => rw [h2] at h; exact ⟨fun p hp => (by cases hp), h⟩
  | cons p ps =>
   rw [h2] at h;exact nO h
section
variable {P : Program} {w0 : World} {B : Nat} {ρ : bK} {H : AH} {w : World} {G : List Nat} {call : bE} {ops : Array Oper}
theorem yj (l1 l2 : List Oper) (A : List Value) (H : AH) : de P G call ops (l1 ++ l2) A H = (de P G call ops l1 A H).bind fun s => de P G call ops l2 s.1 s.2 := by
 induction l1 generalizing A H with
 | nil => rfl
 | cons o l ih =>
  simp only [List.cons_append, de];rw [Option.bind_assoc]
  congr 1
  funext s
  exact ih s.1 s.2
theorem wx {A : List Value} {r : List Value × AH} (h : de P G call ops ops.toList A H = some r) (i : Nat) : de P G call ops (ops.toList.take i) A H = some (jB P G call ops A H i) := by
 unfold jB;have e : ops.toList = ops.toList.take i ++ ops.toList.drop i := (List.take_append_drop ..).symm;rw [e, yj] at h;obtain ⟨s, hs, _⟩ := aG.1 h;rw [hs]; rfl
theorem YU (A : List Value) : jB P G call ops A H 0 = (A, H) := rfl
theorem ab3 {A : List Value} {r : List Value × AH} (h : de P G call ops ops.toList A H = some r) : jB P G call ops A H ops.size = r := by
 unfold jB;rw [show ops.size = ops.toList.length by simp, List.take_length, h]
 rfl
theorem J9 {A : List Value} {r : List Value × AH} (h : de P G call ops ops.toList A H = some r) {i : Nat} {o : Oper} (ho : ops[i]? = some o) :
 gl P G call ops o (jB P G call ops A H i).1 (jB P G call ops A H i).2 = some (jB P G call ops A H (i + 1)) := by
 have ho' : ops.toList[i]? = some o := by simpa using ho
 have h1 := wx h (i + 1);rw [List.take_add_one, ho', Option.toList_some, yj, wx h i] at h1;simp only [bG, de] at h1;obtain ⟨s, hs, e⟩ := aG.1 h1;rw [hs];exact e
noncomputable def agU (P : Program) (G : List Nat) (call : bE) (ops : Array Oper) (A : List Value) (H : AH) (i : Nat) : Value :=
 match ops[i]? with
 | some o => if Region.wanted o (dH ops (jB P G call ops A H i).1) = true then ((eL P call (fM (jB P G call ops A H i).1) o (jB P G call ops A H i).2).map (·.1)).getD undef else undef
 | none => undef
theorem MW (h : sV ops.toList = true) : ∀ j o, ops[j]? = some o → ∀ e ∈ o.after, Region.binds .any e = true → e.on < j := by
 intro j o ho e he hb;unfold sV at h;simp only [Bool.and_eq_true, List.all_eq_true] at h
 have ho' : ops.toList[j]? = some o := by simpa using ho
 have hm : (o, j) ∈ ops.toList.zipIdx := by
  rw [List.mem_iff_getElem?];exact ⟨j, by rw [List.getElem?_zipIdx, ho']; simp⟩
 have := h.1 (o, j) hm e (by simpa using he)
 simpa [hb] using this
theorem MX (h : sV ops.toList = true) : ∀ i j oi oj, i < j → ops[i]? = some oi → ops[j]? = some oj → fb (ce ops.toList) i j = true ∨ (oi.apart ops oj = true ∧ ¬ (kG oi.op = 3 ∧ kG oj.op = 3)) := by
 intro i j oi oj hij hi hj;unfold sV at h;simp only [Bool.and_eq_true, List.all_eq_true] at h
 have hi' : ops.toList[i]? = some oi := by simpa using hi
 have hj' : ops.toList[j]? = some oj := by simpa using hj
 have hm : (oj, j) ∈ ops.toList.zipIdx := by
  rw [List.mem_iff_getElem?];exact ⟨j, by rw [List.getElem?_zipIdx, hj']; simp⟩
 have hm2 : (oi, i) ∈ ops.toList.zipIdx.take j := by
  rw [List.mem_iff_getElem?];exact ⟨i, by rw [List.getElem?_take, if_pos hij, List.getElem?_zipIdx, hi']; simp⟩
 have := h.2 (oj, j) hm (oi, i) hm2;simp only [Bool.or_eq_true, Bool.and_eq_true, Bool.not_eq_true', Bool.and_eq_false_iff, beq_eq_false_iff_ne, Array.toArray_toList] at this
 rcases this with h1 | ⟨h1, h2⟩
 ·exact .inl h1
 ·exact .inr ⟨h1, fun h3 => by rcases h2 with h2 | h2; exact h2 h3.1; exact h2 h3.2⟩
theorem DU {j e : Nat} {oj oe : Oper} (hj : ops[j]? = some oj) (he : ops[e]? = some oe) (h2 : kG oj.op = 2) (h3 : kG oe.op = 3) (hf1 : fb (ce ops.toList) e j = false) (hf2 : fb (ce ops.toList) j e = false) : (j, e) ∈ dR ops.toList := by
 have hj' : ops.toList[j]? = some oj := by simpa using hj
 have he' : ops.toList[e]? = some oe := by simpa using he
 unfold dR;simp only [List.mem_flatMap, List.mem_filter, List.mem_map];refine ⟨(oj, j), ⟨?_, by simp [h2]⟩, (oe, e), ⟨?_, by simp [h3, hf1, hf2]⟩, rfl⟩
 ·rw [List.mem_iff_getElem?]; exact ⟨j, by rw [List.getElem?_zipIdx, hj']; simp⟩
 ·rw [List.mem_iff_getElem?]; exact ⟨e, by rw [List.getElem?_zipIdx, he']; simp⟩
noncomputable def adI {A : List Value} {r : List Value × AH} (h : mI P G call ops A H = some r) : Tra P G call ops where
 s := jB P G call ops A H
 val := agU P G call ops A H
 step := fun i o ho => by
  obtain ⟨_, _, hr⟩ := gk h;have hs := J9 hr ho;unfold gl at hs
  split at hs
  ·rename_i hok
   refine ⟨hok, ?_⟩;unfold agU;rw [ho];simp only
   split at hs
   ·rename_i hw
    obtain ⟨⟨v, H2⟩, hv, e⟩ := bf.1 hs;rw [if_pos hw, hv, ← e];exact ⟨rfl, .inl ⟨hw, rfl⟩⟩
   ·rename_i hw
    rw [if_neg hw];have e := (e7 hs).symm;rw [e];exact ⟨rfl, .inr ⟨by simpa using hw, rfl, rfl⟩⟩
  ·cases hs
 back := MW (gk h).1
 pair := MX (gk h).1
 look := fun j e oj oe hj he h2 h3 hf1 hf2 => (gk h).2.1 (j, e) (DU hj he h2 h3 hf1 hf2) oj hj
theorem K8 (hcall : lS P G call) (hmono : ij call) (hm : P.follows .mixedOrders = true) {id : Nat} {Q : Exit → Act → World → Prop} {A : List Value} {a : Act} {A' : List Value} {H' : AH} (h : mI P G call ops A H = some (A', H'))
 (hA : cp P ρ A a) (hG : GlobRel ρ G) (hR : Rel P w0 B ρ H w) (hQ : ∀ a' w', AS P w0 B G ρ H w A' H' a' w' → Q .normal a' w') : (Code.region id ops true).wp P Q a w := by
 have W : Way (adI h) w0 B ρ w.drew := ⟨hcall, hmono, hG, hR.drew, ⟨a, hA⟩⟩;refine M1 W hm (w := w) rfl hA (fun a' w' hp => hQ a' w' ?_);obtain ⟨ρ', h1, h2, h3, h4⟩ := hp;have e : (adI h).s ops.size = (A', H') := ab3 (gk h).2.2;rw [e] at h1 h3 h4;exact ⟨ρ', h1, h2, iY.of_drew h3, h4⟩
end
inductive AE where
 | normal
 | exit (id : Nat)
 | ret
deriving DecidableEq
abbrev AR := AE × List Value × AH
def fi (f : List Value → AH → Option AR) : Nat → List Value → AH → Option AR
 | 0, _, _ => none
 | n + 1, A, H => (f A H).bind fun r => match r.1 with
  | .normal => fi f n r.2.1 r.2.2
  | _ => some r
theorem AY {f : List Value → AH → Option AR} {n : Nat} {A : List Value} {H : AH} {r : AR} (h : fi f n A H = some r) : ∀ m, n ≤ m → fi f m A H = some r := by
 induction n generalizing A H with
 | zero => cases h
 | succ n ih =>
  intro m hm;obtain ⟨m, rfl⟩ : ∃ k, m = k + 1 := ⟨m - 1, by omega⟩;simp only [fi] at h ⊢;obtain ⟨s, hs, h⟩ := aG.1 h;rw [hs];simp only [bG]
  split at h
  ·exact ih h m (by omega)
  ·exact h
open Classical in
noncomputable def pe (f : List Value → AH → Option AR) (A : List Value) (H : AH) : Option AR := if h : ∃ n r, fi f n A H = some r then some h.choose_spec.choose else none
theorem dd {f : List Value → AH → Option AR} {A : List Value} {H : AH} {r : AR} : pe f A H = some r ↔ ∃ n, fi f n A H = some r := by
 unfold pe
 constructor
 ·intro h
  split at h
  ·rename_i hx
   cases h;exact ⟨_, hx.choose_spec.choose_spec⟩
  ·cases h
 ·rintro ⟨n, hn⟩
  have hx : ∃ n r, fi f n A H = some r := ⟨n, r, hn⟩;rw [dif_pos hx];have h1 := AY hx.choose_spec.choose_spec (max n hx.choose) (Nat.le_max_right ..);have h2 := AY hn (max n hx.choose) (Nat.le_max_left ..);rw [h2] at h1;exact h1.symm
theorem UM (f : List Value → AH → Option AR) (A : List Value) (H : AH) : pe f A H = (f A H).bind fun r => match r.1 with | .normal => pe f r.2.1 r.2.2 | _ => some r := by
 apply Option.ext;intro r;rw [dd]
 constructor
 ·rintro ⟨n, hn⟩
  cases n with
  | zero => cases hn
  | succ n =>
   simp only [fi] at hn;obtain ⟨s, hs, h⟩ := aG.1 hn;rw [hs];simp only [bG]
   split at h
   ·exact dd.2 ⟨n, h⟩
   ·exact h
 ·intro h
  obtain ⟨s, hs, h⟩ := aG.1 h
  split at h
  ·rename_i e
   obtain ⟨n, hn⟩ := dd.1 h;refine ⟨n + 1, ?_⟩;simp only [fi, hs, bG, e];exact hn
  ·rename_i e
   refine ⟨1, ?_⟩;simp only [fi, hs, bG];exact h
noncomputable def f8 (P : Program) (G : List Nat) (call : bE) (ops : Array Oper) (draw : Bool) (A : List Value) (H : AH) : Option (List Value × AH) :=
 match draw with
 | true => mI P G call ops A H
 | false => de P G call ops ops.toList A H
noncomputable def aQ (P : Program) (G : List Nat) (call : bE) : Code → List Value → AH → Option AR
 | .skip, A, H => some (.normal, A, H)
 | .label _, A, H => some (.normal, A, H)
 | .region _ ops draw, A, H => (f8 P G call ops draw A H).map fun s => (.normal, s.1, s.2)
 | .seq x y, A, H => (aQ P G call x A H).bind fun r => match r.1 with
  | .normal => aQ P G call y r.2.1 r.2.2
  | _ => some r
 | .cond c x y, A, H => match fM A c with
  | .bool true => aQ P G call x A H
  | .bool false => aQ P G call y A H
  | _ => none
 | .block id x, A, H => (aQ P G call x A H).map fun r => match r.1 with
  | .exit i => if i = id then (.normal, r.2.1, r.2.2) else r
  | _ => r
 | .loop x, A, H => pe (aQ P G call x) A H
 | .exit id, A, H => some (.exit id, A, H)
 | .ret, A, H => some (.ret, A, H)
 | _, _, _ => none
def AE.to : AE → Exit
 | .normal => .normal
 | .exit id => .exit id
 | .ret => .ret
section
variable {P : Program} {w0 : World} {B : Nat} {G : List Nat} {call : bE}
theorem AS.trans {ρ ρ1 : bK} {H H1 H2 : AH} {w w1 w2 : World} {A2 : List Value} {a2 : Act} (hR : Rel P w0 B ρ H w) (hE : iY ρ H w ρ1 H1 w1) (h : AS P w0 B G ρ1 H1 w1 A2 H2 a2 w2) : AS P w0 B G ρ H w A2 H2 a2 w2 := by
 obtain ⟨ρ', h1, h2, h3, h4⟩ := h;exact ⟨ρ', h1, h2, hE.trans hR h3, h4⟩
theorem Bm (hcall : lS P G call) (hmono : ij call) (hm : P.follows .mixedOrders = true) : ∀ (c : Code) {Q : Exit → Act → World → Prop} {ρ : bK} {A : List Value} {H : AH} {a : Act} {w : World} {e : AE} {A' : List Value} {H' : AH},
 aQ P G call c A H = some (e, A', H') → cp P ρ A a → GlobRel ρ G → Rel P w0 B ρ H w → (∀ a' w', AS P w0 B G ρ H w A' H' a' w' → Q e.to a' w') → c.wp P Q a w := by
 intro c
 induction c with
 | skip =>
  intro Q ρ A H a w e A' H' h hA hG hR hQ;simp only [aQ] at h; cases h;exact wp_skip (hQ a w ⟨ρ, hA, hG, iY.refl _ _ _, hR⟩)
 | label l =>
  intro Q ρ A H a w e A' H' h hA hG hR hQ;simp only [aQ] at h; cases h;exact wp_label (hQ a w ⟨ρ, hA, hG, iY.refl _ _ _, hR⟩)
 | exit id =>
  intro Q ρ A H a w e A' H' h hA hG hR hQ;simp only [aQ] at h; cases h;exact wp_exit (hQ a w ⟨ρ, hA, hG, iY.refl _ _ _, hR⟩)
 | ret =>
  intro Q ρ A H a w e A' H' h hA hG hR hQ;simp only [aQ] at h; cases h;exact wp_ret (hQ a w ⟨ρ, hA, hG, iY.refl _ _ _, hR⟩)
 | region id ops draw =>
  intro Q ρ A H a w e A' H' h hA hG hR hQ;simp only [aQ] at h;obtain ⟨⟨A1, H1⟩, hs, e1⟩ := bf.1 h;cases e1
  cases draw with
  | true => exact K8 hcall hmono hm hs hA hG hR hQ
  | false => exact JZ hcall hs hA hG hR hQ
 | seq x y ihx ihy =>
  intro Q ρ A H a w e A' H' h hA hG hR hQ;simp only [aQ] at h;obtain ⟨⟨e1, A1, H1⟩, hx, h⟩ := aG.1 h;refine wp_seq (ihx hx hA hG hR (fun a1 w1 hp => ?_))
  cases e1 with
  | normal =>
   simp only at h;obtain ⟨ρ1, hA1, hG1, hE1, hR1⟩ := hp;exact ihy h hA1 hG1 hR1 (fun a' w' hp => hQ a' w' (hp.trans hR hE1))
  | exit id => simp only at h; cases h; exact hQ a1 w1 hp
  | ret => simp only at h; cases h; exact hQ a1 w1 hp
 | cond c x y ihx ihy =>
  intro Q ρ A H a w e A' H' h hA hG hR hQ;simp only [aQ] at h
  have hc : ∀ t, fM A c = .bool t → a.eval c = .bool t := by
   intro t ht
   cases c with
   | tmp u =>
    simp only [fM] at ht
    cases hx : A[u]? with
    | none => rw [hx] at ht; simp [undef] at ht
    | some x =>
     rw [hx] at ht;simp only [Option.getD_some] at ht;subst ht;obtain ⟨y, hy, hv⟩ := hA.tmps.get hx;rw [Array.getElem?_toList] at hy;simp only [Act.eval, Array.getD_eq_getD_getElem?, hy, Option.getD_some];exact hv.bool_inv
   | const v => exact ht
   | global g => cases ht
   | func f => cases ht
  split at h
  ·rename_i ht; exact wp_cond (hc _ ht) (ihx h hA hG hR hQ)
  ·rename_i ht; exact wp_cond (hc _ ht) (ihy h hA hG hR hQ)
  ·cases h
 | block id x ih =>
  intro Q ρ A H a w e A' H' h hA hG hR hQ;simp only [aQ] at h;obtain ⟨⟨e1, A1, H1⟩, hx, e2⟩ := bf.1 h;refine wp_block (ih hx hA hG hR (fun a1 w1 hp => ?_))
  cases e1 with
  | normal => simp only at e2; cases e2; exact hQ a1 w1 hp
  | ret => simp only at e2; cases e2; exact hQ a1 w1 hp
  | exit i =>
   simp only at e2;simp only [AE.to, Exit.inBlock]
   split at e2
   ·rename_i hi; cases e2; rw [if_pos hi]; exact hQ a1 w1 hp
   ·rename_i hi; cases e2; rw [if_neg hi]; exact hQ a1 w1 hp
 | loop x ih =>
  intro Q ρ A H a w e A' H' h hA hG hR hQ;simp only [aQ] at h;obtain ⟨n, hn⟩ := dd.1 h;refine wp_loop_rounds n ?_
  clear h
  induction n generalizing ρ A H a w with
  | zero => cases hn
  | succ n ihn =>
   simp only [fi] at hn;obtain ⟨⟨e1, A1, H1⟩, hx, h⟩ := aG.1 hn;rw [rounds_succ];refine ih hx hA hG hR (fun a1 w1 hp => ?_)
   cases e1 with
   | normal =>
    simp only at h;obtain ⟨ρ1, hA1, hG1, hE1, hR1⟩ := hp;exact ihn hA1 hG1 hR1 (fun a' w' hp => hQ a' w' (hp.trans hR hE1)) h
   | exit id => simp only at h; cases h; exact hQ a1 w1 hp
   | ret => simp only at h; cases h; exact hQ a1 w1 hp
 | rangeFunc f ps x y => intro Q ρ A H a w e A' H' h; simp [aQ] at h
 | scope x => intro Q ρ A H a w e A' H' h; simp [aQ] at h
 | goto l => intro Q ρ A H a w e A' H' h; simp [aQ] at h
 | refuse s => intro Q ρ A H a w e A' H' h; simp [aQ] at h
theorem ry (hm : ij call) {ops : Array Oper} : ∀ (l : List Oper) {A : List Value} {H : AH} {r : List Value × AH}, de P G call ops l A H = some r → H.size ≤ r.2.size := by
 intro l
 induction l with
 | nil => intro A H r h; simp only [de] at h; cases h; exact bJ _
 | cons o l ih =>
  intro A H r h;simp only [de] at h;obtain ⟨s, hs, h⟩ := aG.1 h;refine d8 ?_ (ih h);unfold gl at hs
  split at hs
  ·split at hs
   ·obtain ⟨⟨v, H2⟩, hv, e⟩ := bf.1 hs
    cases e; exact Iz hm hv
   ·cases hs; exact bJ _
  ·cases hs
theorem AW (hm : ij call) : ∀ (c : Code) {A : List Value} {H : AH} {r : AR}, aQ P G call c A H = some r → H.size ≤ r.2.2.size := by
 intro c
 induction c with
 | skip => intro A H r h; simp only [aQ] at h; cases h; exact bJ _
 | label l => intro A H r h; simp only [aQ] at h; cases h; exact bJ _
 | exit id => intro A H r h; simp only [aQ] at h; cases h; exact bJ _
 | ret => intro A H r h; simp only [aQ] at h; cases h; exact bJ _
 | region id ops draw =>
  intro A H r h;simp only [aQ] at h;obtain ⟨s, hs, e1⟩ := bf.1 h;cases e1
  cases draw with
  | true => exact ry hm _ (gk hs).2.2
  | false => exact ry hm _ hs
 | seq x y ihx ihy =>
  intro A H r h;simp only [aQ] at h;obtain ⟨s, hx, h⟩ := aG.1 h;have h1 := ihx hx
  split at h
  ·exact d8 h1 (ihy h)
  ·cases h; exact h1
 | cond c x y ihx ihy =>
  intro A H r h;simp only [aQ] at h
  split at h
  ·exact ihx h
  ·exact ihy h
  ·cases h
 | block id x ih =>
  intro A H r h;simp only [aQ] at h;obtain ⟨s, hx, e2⟩ := bf.1 h;have h1 := ih hx
  split at e2
  ·split at e2 <;> (subst e2; exact h1)
  ·subst e2; exact h1
 | loop x ih =>
  intro A H r h;simp only [aQ] at h;obtain ⟨n, hn⟩ := dd.1 h
  clear h
  induction n generalizing A H with
  | zero => cases hn
  | succ n ihn =>
   simp only [fi] at hn;obtain ⟨s, hx, h⟩ := aG.1 hn;have h1 := ih hx
   split at h
   ·exact d8 h1 (ihn h)
   ·cases h; exact h1
 | rangeFunc f ps x y => intro A H r h; simp [aQ] at h
 | scope x => intro A H r h; simp [aQ] at h
 | goto l => intro A H r h; simp [aQ] at h
 | refuse s => intro A H r h; simp [aQ] at h
end
def lg (P : Program) (A : List Value) (H : AH) : ResultVar → Option Value
 | .tmp t => some (A[t]?.getD undef)
 | .cell a t => (fL P t).bind fun g => match g with
  | some n => ay n (A[a]?.getD undef) H
  | none => aq (A[a]?.getD undef) H
def sG (P : Program) (A : List Value) (H : AH) : List ResultVar → Option (List Value)
 | [] => some []
 | r :: rs => (lg P A H r).bind fun v => (sG P A H rs).bind fun vs => some (v :: vs)
def i0 (P : Program) (A : List Value) (H : AH) (rs : List ResultVar) : Option Value := (sG P A H rs).map fun vs => match vs with
 | [v] => v
 | vs => .tuple vs.toArray
def UL (P : Program) (rs : List ResultVar) (r : AR) : Option (Value × AH) :=
 match r.1 with
 | .exit _ => none
 | _ => (i0 P r.2.1 r.2.2 rs).map (·, r.2.2)
noncomputable def pd (P : Program) (G : List Nat) (call : bE) (n : Nat) (rs : List ResultVar) (c : Code) (args : List Value) (H : AH) : Option (Value × AH) :=
 (aQ P G call c (args ++ List.replicate (n - args.length) undef) H).bind (UL P rs)
structure DSh where
 c1 : Code
 id2 : Nat
 ops2 : Array Oper
 om : Oper
 df : Oper
 t : Nat
 k : Nat
 id3 : Nat
 ops3 : Array Oper
def kI : Code → Option DSh
 | .seq c1 (.seq (.region id2 ops2 false) (.seq (.region id3 ops3 false) .ret)) => match ops2.toList with
  | [mk, df] => match mk.dst, mk.op, mk.guard, df.dst, df.op, df.guard with
   | some t, .makeFunc (.func k) first _, none, none, .defer ⟨.value (.tmp t'), args, _⟩, none => if t = t' ∧ first = #[] ∧ args = #[] then some ⟨c1, id2, ops2, mk, df, t, k, id3, ops3⟩ else none
   | _, _, _, _, _, _ => none
  | _ => none
 | _ => none
theorem IV {c : Code} {s : DSh} (h : kI c = some s) : c = .seq s.c1 (.seq (.region s.id2 s.ops2 false) (.seq (.region s.id3 s.ops3 false) .ret)) ∧ s.ops2.toList = [s.om, s.df] ∧ s.om.dst = some s.t ∧
 (∃ cap, s.om.op = .makeFunc (.func s.k) #[] cap) ∧ s.om.guard = none ∧ s.df.dst = none ∧ (∃ ats, s.df.op = .defer ⟨.value (.tmp s.t), #[], ats⟩) ∧ s.df.guard = none := by
 unfold kI at h
 split at h
 ·split at h
  ·rename_i hl
   split at h
   ·rename_i h1 h2 h3 h4 h5 h6
    split at h
    ·rename_i hc
     obtain ⟨rfl, rfl, rfl⟩ := hc;cases h;exact ⟨rfl, hl, h1, ⟨_, h2⟩, h3, h4, ⟨_, h5⟩, h6⟩
    ·cases h
   ·cases h
  ·cases h
 ·cases h
def uk (P : Program) (k : Nat) : Prop :=
 (∃ fn, P.funcs[k]? = some fn ∧ fn.body.isSome = true ∧ fn.name ≠ "runtime.NumGoroutine") ∧
 ∀ (args : Array Value) (w : World), CallsD P k args .returning w fun e u' w' => (∃ v, e = .returned v) ∧ u' = .returning ∧ w' = w
noncomputable def oC (P : Program) (G : List Nat) (call : bE) (n : Nat) (rs : List ResultVar) (s : DSh) (args : List Value) (H : AH) : Option (Value × AH) :=
 (aQ P G call s.c1 (args ++ List.replicate (n - args.length) undef) H).bind fun r => match r.1 with
  | .normal => if r.2.1.length ≤ s.t then none else (gl P G call s.ops2 s.om r.2.1 r.2.2).bind fun q => (de P G call s.ops3 s.ops3.toList q.1 q.2).bind fun z => (i0 P z.1 z.2 rs).map (·, z.2)
  | _ => none
noncomputable def fK (P : Program) (G : List Nat) : Nat → bE
 | 0 => fun _ _ _ => none
 | d + 1 => fun f args H => match P.funcs[f]? with
  | some fn => if fn.name = "runtime.NumGoroutine" then none else match fn.body with
   | some c => match kI c with
    | none => pd P G (fK P G d) fn.ntmps fn.results.toList c args H
    | some s => IQ (uk P s.k) (oC P G (fK P G d) fn.ntmps fn.results.toList s args H)
   | none => none
  | none => none
section
variable {P : Program} {w0 : World} {B : Nat} {ρ : bK} {H : AH} {w : World} {G : List Nat} {call : bE}
theorem M6 {A : List Value} {a : Act} (hA : cp P ρ A a) (hR : Rel P w0 B ρ H w) {r : ResultVar} {v : Value} (h : lg P A H r = some v) :
 ∃ v', (match r with | .tmp t => pure (a.tmps.getD t undef) | .cell x t => do loadVar t (← asAddr (a.tmps.getD x undef)) : Sem Value).run P w = .ok v' w ∧ VRel P ρ v v' := by
 have slot : ∀ t, VRel P ρ (A[t]?.getD undef) (a.tmps.getD t undef) := fun t => wO (G := []) hA (fun g hg => by simp at hg) (x := .tmp t) rfl
 cases r with
 | tmp t => simp only [lg] at h; cases h; exact ⟨_, rfl, slot t⟩
 | cell x t =>
  simp only [lg] at h;obtain ⟨g, hg, h⟩ := aG.1 h
  cases g with
  | none =>
   obtain ⟨a', y', ha, hr, hv⟩ := Xz hR h (slot x);refine ⟨y', ?_, hv⟩;simp only [ha];simp [asAddr, loadVar, oD hg]
   simpa using hr
  | some n =>
   obtain ⟨a', ys, ha, hr, hv⟩ := Jx hR h (slot x);obtain ⟨hag, hsz⟩ := oE hg w;refine ⟨.agg ys, ?_, hv⟩;simp only [ha];simp [asAddr, loadVar, hag, cX hsz, hr]
theorem XF {A : List Value} {a : Act} (hA : cp P ρ A a) (hR : Rel P w0 B ρ H w) : ∀ {rs : List ResultVar} {vs : List Value}, sG P A H rs = some vs →
 ∃ vs', (rs.mapM (fun r => (match r with | .tmp t => pure (a.tmps.getD t undef) | .cell x t => do loadVar t (← asAddr (a.tmps.getD x undef)) : Sem Value))).run P w = .ok vs' w ∧ LRel P ρ vs vs' := by
 intro rs
 induction rs with
 | nil => intro vs h; simp only [sG] at h; cases h; exact ⟨[], rfl, LRel.nil⟩
 | cons r rs ih =>
  intro vs h;simp only [sG] at h;obtain ⟨v, hv, h⟩ := aG.1 h;obtain ⟨vs0, hvs, h⟩ := aG.1 h;cases h;obtain ⟨v', hr, hv'⟩ := M6 hA hR hv;obtain ⟨vs', hrs, hvs'⟩ := ih hvs;refine ⟨v' :: vs', ?_, hvs'.cons hv'⟩;rw [List.mapM_cons];simp only [Sem.run_bind, hr, Result.andThen_ok, hrs, Sem.run_pure]
theorem yK {A : List Value} {a : Act} (hA : cp P ρ A a) (hR : Rel P w0 B ρ H w) {fn : Func} {v : Value} (h : i0 P A H fn.results.toList = some v) :
 ∃ v', (results fn a.tmps).run P w = .ok v' w ∧ VRel P ρ v v' := by
 unfold i0 at h;obtain ⟨vs, hvs, e⟩ := bf.1 h;obtain ⟨vs', hrun, hl⟩ := XF hA hR hvs
 have hm : ∀ g : ResultVar → Sem Value, (fn.results.mapM g).run P w = ((fn.results.toList.mapM g >>= fun l => pure l.toArray : Sem (Array Value))).run P w := by
  intro g;rw [Array.mapM_eq_mapM_toList]
  rfl
 have h2 : (results fn a.tmps).run P w = .ok (if h : vs'.toArray.size = 1 then vs'.toArray[0] else .tuple vs'.toArray) w := by
  unfold results;rw [Sem.run_bind, hm, Sem.run_bind]
  erw [hrun]
  rfl
 refine ⟨_, h2, ?_⟩;have hlen := hl.1
 split at e
 ·rename_i x
  subst e
  match vs', hlen, hl with
  | [y], _, hl => simpa using hl.2 0 _ _ rfl rfl
 ·rename_i hne
  subst e
  have : ¬ vs'.toArray.size = 1 := by
   intro h1
   match vs, hlen, hne with
   | [x], _, hne => exact hne x rfl
   | [], hlen, _ => simp at hlen h1; omega
   | x :: y :: zs, hlen, _ => simp at hlen h1; omega
  rw [dif_neg this];exact .tuple (by simp [hlen]) (fun i x y hx hy => hl.2 i x y (by simpa using hx) (by simpa using hy))
theorem Mn (hcall : lS P G call) {ops : Array Oper} (ds : List Deferred) {Q : Exit → Act → World → Prop} : ∀ (l : List Oper) {ρ : bK} {A : List Value} {H : AH} {a : Act} {w : World} {A' : List Value} {H' : AH}, de P G call ops l A H = some (A', H') →
 cp P ρ A a → GlobRel ρ G → Rel P w0 B ρ H w → (∀ a' w', AS P w0 B G ρ H w A' H' a' w' → Q .normal { a' with defers := ds } w') → wpList P ops Q l { a with defers := ds } w := by
 intro l
 induction l with
 | nil =>
  intro ρ A H a w A' H' h hA hG hR hQ;simp only [de] at h;cases h;exact hQ a w ⟨ρ, hA, hG, iY.refl _ _ _, hR⟩
 | cons o rest ih =>
  intro ρ A H a w A' H' h hA hG hR hQ;simp only [de] at h;obtain ⟨⟨A1, H1⟩, hs, h⟩ := aG.1 h;simp only at h;unfold gl at hs
  split at hs
  ·rename_i hok
   unfold wpList;have hwr := ue hA ops o;rw [show Region.wanted o (yielded ops ({ a with defers := ds } : Act).tmps) = Region.wanted o (dH ops A) from hwr]
   split at hs
   ·rename_i hw
    rw [if_pos hw];obtain ⟨⟨v, H2⟩, ho, e⟩ := bf.1 hs;cases e;have hr := vB hcall hA hG hR hok ho;refine .inl (fh.wp (a := { a with defers := ds }) (fh.congr hr rfl) (fun v' w' hv => ?_));obtain ⟨ρ', hv, hE, hR'⟩ := hv;have := ih (a := a.put o.dst v') h (ka (hA.mono hE.le) o.dst hv) (hG.mono hE.le) hR' (fun a' w'' hp => hQ a' w'' (hp.trans hR hE))
    have e : ({ a.put o.dst v' with defers := ds } : Act) = ({ a with defers := ds } : Act).put o.dst v' := by cases o.dst <;> rfl
    rw [e] at this;exact this
   ·rename_i hw
    rw [if_neg hw];cases hs;have := ih (a := a.put o.dst undef) h (ka hA o.dst VRel.undef) hG hR hQ
    have e : ({ a.put o.dst undef with defers := ds } : Act) = ({ a with defers := ds } : Act).put o.dst undef := by cases o.dst <;> rfl
    rw [e] at this;exact this
  ·cases hs
theorem IU (hcall : lS P G call) (hmono : ij call) (hm : P.follows .mixedOrders = true) {f : Nat} {fn : Func} {c : Code} {s : DSh} (hf : P.funcs[f]? = some fn) (hb : fn.body = some c) (hd : kI c = some s)
 {args : List Value} {args' : Array Value} {v : Value} {H' : AH} (h : IQ (uk P s.k) (oC P G call fn.ntmps fn.results.toList s args H) = some (v, H'))
 (hA : cp P ρ (args ++ List.replicate (fn.ntmps - args.length) undef) { tmps := args' ++ Array.replicate (fn.ntmps - args'.size) undef, defers := [] }) (hG : GlobRel ρ G) (hR : Rel P w0 B ρ H w) :
 Calls P f args' w fun e w' => ∃ v' ρ', e = .returned v' ∧ VRel P ρ' v v' ∧ iY ρ H w ρ' H' w' ∧ Rel P w0 B ρ' H' w' := by
 obtain ⟨⟨⟨fk, hfk, hbk, hnk⟩, hcd⟩, h⟩ := nO h;obtain ⟨hc, hl2, hdst, ⟨cap, hop⟩, hg, hdd, ⟨ats, hdo⟩, hdg⟩ := IV hd;unfold oC at h;obtain ⟨⟨e1, A1, H1⟩, h1, h⟩ := aG.1 h
 cases e1 with
 | exit i => cases h
 | ret => cases h
 | normal =>
  simp only at h
  split at h
  ·cases h
  rename_i hlt
  obtain ⟨⟨A2, H2⟩, h2, h⟩ := aG.1 h;obtain ⟨⟨A3, H3⟩, h3, h⟩ := aG.1 h;obtain ⟨x, hx, e⟩ := bf.1 h;cases e;refine calls_of_wp_defers hf hb ?_;rw [hc];refine wp_seq (Bm hcall hmono hm s.c1 h1 hA hG hR (fun a1 w1 hp => ?_));obtain ⟨ρ1, hA1, hG1, hE1, hR1⟩ := hp;refine wp_seq (wp_region_list ?_);rw [hl2];have hd1 : a1.defers = [] := hA1.defers;unfold gl at h2
  split at h2
  ·rename_i hok
   have hwt : Region.wanted s.om (dH s.ops2 A1) = true := by simp [Region.wanted, hg]
   rw [if_pos hwt] at h2;obtain ⟨⟨y, H2'⟩, ho, e⟩ := bf.1 h2;cases e;refine wpList_plain hg (fun K hK => fh.wp (vB hcall hA1 hG1 hR1 hok ho) (fun v' w2 hv => hK _ _ ?_));obtain ⟨ρ2, hv, hE2, hR2⟩ := hv
   have hy : y = .func (.func s.k) #[] (cap.map (fM A1)) := by
    unfold eL at ho;rw [hop] at ho;simp at ho;exact ho.1.symm
   rw [hy] at hv;obtain ⟨f', c', rfl, hf', _⟩ := hv.func_inv
   have hf0 : f' = #[] := by
    have := hf'.1;simp at this;exact Array.eq_empty_of_size_eq_zero (by simpa using this.symm)
   subst hf0;refine wpList_plain hdg (fun K' hK' => ?_)
   have ht : (a1.put s.om.dst (.func (.func s.k) #[] c')).eval (.tmp s.t) = .func (.func s.k) #[] c' := by
    have hsz : s.t < a1.tmps.size := by have := hA1.tmps.1; simp at this; omega
    rw [hdst];simp [Act.put, Act.eval, hsz, Array.getD]
   have hrun : (execOp (a1.put s.om.dst (.func (.func s.k) #[] c')).eval s.df).run P w2 = .ok (.defer { target := .fn (.func s.k) c', args := #[] }) w2 := by
    simp [execOp, hdo, resolve, ht, Deferred.ofValue]
   unfold Oper.wp;rw [hrun, Oper.upon_defer];refine hK' _ _ (wpList_nil ?_);rw [hdd];have hA2 := ka (hA1.mono hE2.le) s.om.dst hv
   have hpd : ∀ (a : Act) (d : Option Tmp) (x : Value), (a.put d x).defers = a.defers := by intro a d x; cases d <;> rfl
   have e : ({ a1.put s.om.dst (.func (.func s.k) #[] c') with defers := { target := .fn (.func s.k) c', args := #[] } :: (a1.put s.om.dst (.func (.func s.k) #[] c')).defers } : Act).put none undef
    = { a1.put s.om.dst (.func (.func s.k) #[] c') with defers := [{ target := .fn (.func s.k) c', args := #[] }] } := by
    rw [hpd, hd1]; rfl
   rw [e];show (Code.seq (.region s.id3 s.ops3 false) .ret).wp P _ _ _;rw [hy] at h3;refine wp_seq (wp_region_list (Mn hcall _ _ h3 hA2 (hG1.mono hE2.le) hR2 (fun a3 w3 hp => ?_)));obtain ⟨ρ3, hA3, hG3, hE3, hR3⟩ := hp;refine wp_ret ?_;obtain ⟨v3, hr3, hv3⟩ := yK hA3 hR3 hx
   have hbn : ¬ (fk.body = none) := by intro hb; rw [hb] at hbk; cases hbk
   refine leaves_cons (f := s.k) (args := c') (by simp) (by simp [invoke, callFunc, hfk, hnk, hbn]) (CallsD.mono (hcd _ _) ?_)
   rintro e' u' w' ⟨⟨v0, rfl⟩, rfl, rfl⟩
   exact ⟨v3, hr3, v3, ρ3, rfl, hv3, hE1.trans hR (hE2.trans hR1 hE3), hR3⟩
  ·cases h2
theorem Iy (hm : ij call) {n : Nat} {rs : List ResultVar} {s : DSh} {args : List Value} {v : Value} {H' : AH} (h : oC P G call n rs s args H = some (v, H')) : H.size ≤ H'.size := by
 unfold oC at h;obtain ⟨⟨e1, A1, H1⟩, h1, h⟩ := aG.1 h
 cases e1 with
 | exit i => cases h
 | ret => cases h
 | normal =>
  simp only at h
  split at h
  ·cases h
  obtain ⟨⟨A2, H2⟩, h2, h⟩ := aG.1 h;obtain ⟨⟨A3, H3⟩, h3, h⟩ := aG.1 h;obtain ⟨x, hx, e⟩ := bf.1 h;cases e;have g1 := AW hm _ h1;have g2 : H1.size ≤ H2.size := ry (P := P) (G := G) (call := call) hm [s.om] (ops := s.ops2) (A := A1) (H := H1) (r := (A2, H2)) (by simp [de, h2]);have g3 := ry hm _ h3;simp only at g1 g3;exact d8 g1 (d8 g2 g3)
theorem Bk (hm : P.follows .mixedOrders = true) : ∀ d, lS P G (fK P G d) ∧ ij (fK P G d) := by
 intro d
 induction d with
 | zero => exact ⟨fun f args H v H' h => (by cases h), fun f args H v H' h => (by cases h)⟩
 | succ d ih =>
  constructor
  ·intro f args H v H' h
   simp only [fK] at h
   cases hf : P.funcs[f]? with
   | none => rw [hf] at h; cases h
   | some fn =>
    rw [hf] at h;simp only at h
    split at h
    ·cases h
    ·rename_i hname
     cases hb : fn.body with
     | none => rw [hb] at h; cases h
     | some c =>
      rw [hb] at h;simp only at h;refine ⟨⟨fn, rfl, by rw [hb]; rfl, hname⟩, fun w0 B ρ w args' hR hG hargs => ?_⟩
      have hA : cp P ρ (args ++ List.replicate (fn.ntmps - args.length) undef) { tmps := args'.toArray ++ Array.replicate (fn.ntmps - args'.toArray.size) undef, defers := [] } := by
       refine ⟨?_, rfl⟩;simp only [Array.toList_append, Array.toList_replicate, List.size_toArray];rw [hargs.1];refine hargs.append ⟨rfl, fun i x y hx hy => ?_⟩;rw [hx] at hy;cases hy;rw [List.getElem?_replicate] at hx
       split at hx
       ·cases hx; exact VRel.undef
       ·cases hx
      cases hd : kI c with
      | some s => rw [hd] at h; exact IU ih.1 ih.2 hm hf hb hd h hA hG hR
      | none =>
      rw [hd] at h;simp only [pd] at h;obtain ⟨⟨e, A', H2⟩, hc, h⟩ := aG.1 h;refine calls_of_wp hf hb ?_;refine Bm ih.1 ih.2 hm c hc hA hG hR (fun a' w' hp => ?_);obtain ⟨ρ', hA', hG', hE, hR'⟩ := hp
      have fin : ∀ {x : Value} {H3 : AH}, (i0 P A' H2 fn.results.toList).map (·, H2) = some (x, H3) → a'.defers = [] ∧ ∃ v', (results fn a'.tmps).run P w' = .ok v' w' ∧ ∃ v'' ρ'', Ending.returned v' = .returned v'' ∧ VRel P ρ'' x v'' ∧ iY ρ H w ρ'' H3 w' ∧ Rel P w0 B ρ'' H3 w' := by
       intro x H3 hx;obtain ⟨y, hy, e⟩ := bf.1 hx;cases e;obtain ⟨v', hr, hv⟩ := yK hA' hR' hy;exact ⟨hA'.defers, v', hr, v', ρ', rfl, hv, hE, hR'⟩
      cases e with
      | normal => exact fin h
      | ret => exact fin h
      | exit i => cases h
  ·intro f args H v H' h
   simp only [fK] at h
   cases hf : P.funcs[f]? with
   | none => rw [hf] at h; cases h
   | some fn =>
    rw [hf] at h;simp only at h
    split at h
    ·cases h
    ·cases hb : fn.body with
     | none => rw [hb] at h; cases h
     | some c =>
      rw [hb] at h;simp only [pd] at h
      cases hd : kI c with
      | some s =>
       rw [hd] at h;obtain ⟨_, h⟩ := nO h;exact Iy ih.2 h
      | none =>
      rw [hd] at h;simp only at h;obtain ⟨⟨e, A', H2⟩, hc, h⟩ := aG.1 h;have h1 := AW ih.2 c hc;unfold UL at h
      split at h
      ·cases h
      ·obtain ⟨y, hy, e⟩ := bf.1 h
       cases e; exact h1
end
def UE (c1 c2 : bE) : Prop := ∀ f args H r, c1 f args H = some r → c2 f args H = some r
section
variable {P : Program} {G : List Nat} {c1 c2 : bE}
theorem ad3 (h : UE c1 c2) {ev : Operand → Value} {o : Oper} {H : AH} {r : Value × AH} (hr : eL P c1 ev o H = some r) : eL P c2 ev o H = some r := by
 obtain ⟨dst, op, type, pos, after, guard⟩ := o
 cases op with
 | call c =>
  obtain ⟨callee, args, ats⟩ := c
  cases callee with
  | value f =>
   simp only [eL] at hr ⊢;obtain ⟨x, hx, hr⟩ := aG.1 hr;rw [hx];exact h _ _ _ _ hr
  | invoke r m => exact hr
  | builtin b => exact hr
 | makeMap t r => cases r <;> exact hr
 | slice t x lo hi mx => cases lo <;> cases hi <;> cases mx <;> exact hr
 | _ => exact hr
theorem A5 (h : UE c1 c2) {ops : Array Oper} {o : Oper} {A : List Value} {H : AH} {r : List Value × AH} (hr : gl P G c1 ops o A H = some r) : gl P G c2 ops o A H = some r := by
 unfold gl at hr ⊢
 split at hr
 ·rename_i hok
  rw [if_pos hok]
  split at hr
  ·rename_i hw
   rw [if_pos hw];obtain ⟨x, hx, e⟩ := bf.1 hr;rw [ad3 h hx];exact congrArg some e
  ·rename_i hw
   rw [if_neg hw];exact hr
 ·cases hr
theorem rx (h : UE c1 c2) {ops : Array Oper} : ∀ (l : List Oper) {A : List Value} {H : AH} {r : List Value × AH}, de P G c1 ops l A H = some r → de P G c2 ops l A H = some r := by
 intro l
 induction l with
 | nil => intro A H r hr; exact hr
 | cons o l ih =>
  intro A H r hr;simp only [de] at hr ⊢;obtain ⟨s, hs, hr⟩ := aG.1 hr;rw [A5 h hs];exact ih hr
theorem YT (h : UE c1 c2) {ops : Array Oper} {A : List Value} {H : AH} {r : List Value × AH} (hr : de P G c1 ops ops.toList A H = some r) : jB P G c2 ops A H = jB P G c1 ops A H := by
 funext i
 have h1 := rx h _ (wx hr i);unfold jB at h1 ⊢;rw [h1]; rfl
theorem UK (h : UE c1 c2) {ops : Array Oper} {A : List Value} {H : AH} {r : List Value × AH} (hr : mI P G c1 ops A H = some r) : mI P G c2 ops A H = some r := by
 obtain ⟨h1, h2, h3⟩ := gk hr;unfold mI;rw [h1];simp only
 cases h4 : dR ops.toList with
 | nil => exact rx h _ h3
 | cons p ps =>
  simp only;rw [ko ?_]
  ·exact rx h _ h3
  ·rw [YT h h3, ← h4]; exact h2
theorem nL (h : UE c1 c2) : ∀ (c : Code) {A : List Value} {H : AH} {r : AR}, aQ P G c1 c A H = some r → aQ P G c2 c A H = some r := by
 intro c
 induction c with
 | region id ops draw =>
  intro A H r hr;simp only [aQ] at hr ⊢;obtain ⟨s, hs, e1⟩ := bf.1 hr
  have : f8 P G c2 ops draw A H = some s := by
   cases draw with
   | true => exact UK h hs
   | false => exact rx h _ hs
  rw [this]; exact congrArg some e1
 | seq x y ihx ihy =>
  intro A H r hr;simp only [aQ] at hr ⊢;obtain ⟨s, hx, hr⟩ := aG.1 hr;rw [ihx hx];simp only [bG]
  split at hr
  ·exact ihy hr
  ·exact hr
 | cond c x y ihx ihy =>
  intro A H r hr;simp only [aQ] at hr ⊢
  split at hr
  ·exact ihx hr
  ·exact ihy hr
  ·cases hr
 | block id x ih =>
  intro A H r hr;simp only [aQ] at hr ⊢;obtain ⟨s, hx, e2⟩ := bf.1 hr;rw [ih hx]; exact congrArg some e2
 | loop x ih =>
  intro A H r hr;simp only [aQ] at hr ⊢;obtain ⟨n, hn⟩ := dd.1 hr;refine dd.2 ⟨n, ?_⟩
  clear hr
  induction n generalizing A H with
  | zero => cases hn
  | succ n ihn =>
   simp only [fi] at hn ⊢;obtain ⟨s, hx, hr⟩ := aG.1 hn;rw [ih hx];simp only [bG]
   split at hr
   ·exact ihn hr
   ·exact hr
 | _ => intro A H r hr; exact hr
theorem UJ (h : UE c1 c2) {n : Nat} {rs : List ResultVar} {c : Code} {args : List Value} {H : AH} {r : Value × AH} (hr : pd P G c1 n rs c args H = some r) : pd P G c2 n rs c args H = some r := by
 unfold pd at hr ⊢;obtain ⟨s, hs, hr⟩ := aG.1 hr;rw [nL h _ hs];exact hr
theorem QS (h : UE c1 c2) {n : Nat} {rs : List ResultVar} {s : DSh} {args : List Value} {H : AH} {r : Value × AH} (hr : oC P G c1 n rs s args H = some r) : oC P G c2 n rs s args H = some r := by
 unfold oC at hr ⊢;obtain ⟨⟨e1, A1, H1⟩, h1, hr⟩ := aG.1 hr;rw [nL h _ h1];simp only [bG]
 cases e1 with
 | exit i => exact hr
 | ret => exact hr
 | normal =>
  simp only at hr ⊢
  split at hr
  ·cases hr
  rename_i hlt
  rw [if_neg hlt];obtain ⟨q, h2, hr⟩ := aG.1 hr;obtain ⟨z, h3, hr⟩ := aG.1 hr;rw [A5 h h2];simp only [bG];rw [rx h _ h3];exact hr
theorem KM : ∀ d, UE (fK P G d) (fK P G (d + 1)) := by
 intro d
 induction d with
 | zero => intro f args H r h; cases h
 | succ d ih =>
  intro f args H r h;rw [fK] at h ⊢;simp only [] at h ⊢
  cases hf : P.funcs[f]? with
  | none => rw [hf] at h; cases h
  | some fn =>
   rw [hf] at h;simp only at h ⊢
   split at h
   ·cases h
   ·rename_i hn
    rw [if_neg hn]
    cases hb : fn.body with
    | none => rw [hb] at h; cases h
    | some c =>
     rw [hb] at h;simp only at h ⊢
     cases hd : kI c with
     | none => rw [hd] at h; exact UJ ih h
     | some s =>
      rw [hd] at h;obtain ⟨h1, h2⟩ := nO h;simp only;rw [ko h1];exact QS ih h2
theorem kj {d e : Nat} (h : d ≤ e) : UE (fK P G d) (fK P G e) := by
 induction e with
 | zero => rw [show d = 0 from by omega]; exact fun _ _ _ _ h => h
 | succ e ih =>
  by_cases hd : d = e + 1
  ·rw [hd]; exact fun _ _ _ _ h => h
  ·exact fun f args H r hr => KM e f args H r (ih (by omega) f args H r hr)
open Classical in
noncomputable def aF (P : Program) (G : List Nat) : bE := fun f args H => if h : ∃ d r, fK P G d f args H = some r then some h.choose_spec.choose else none
theorem AX {f : Nat} {args : List Value} {H : AH} {r : Value × AH} : aF P G f args H = some r ↔ ∃ d, fK P G d f args H = some r := by
 unfold aF
 constructor
 ·intro h
  split at h
  ·rename_i hx
   cases h;exact ⟨_, hx.choose_spec.choose_spec⟩
  ·cases h
 ·rintro ⟨n, hn⟩
  have hx : ∃ d r, fK P G d f args H = some r := ⟨n, r, hn⟩;rw [dif_pos hx];have h1 := kj (Nat.le_max_right n hx.choose) _ _ _ _ hx.choose_spec.choose_spec;have h2 := kj (Nat.le_max_left n hx.choose) _ _ _ _ hn;rw [h2] at h1;exact h1.symm
theorem af5 (hm : P.follows .mixedOrders = true) : lS P G (aF P G) ∧ ij (aF P G) := by
 constructor
 ·intro f args H v H' h
  obtain ⟨d, hd⟩ := AX.1 h;exact (Bk hm d).1 f args H v H' hd
 ·intro f args H v H' h
  obtain ⟨d, hd⟩ := AX.1 h;exact (Bk hm d).2 f args H v H' hd
theorem ZM {ev : Operand → Value} {o : Oper} {H : AH} {r : Value × AH} (h : eL P (aF P G) ev o H = some r) : ∃ d, eL P (fK P G d) ev o H = some r := by
 obtain ⟨dst, op, type, pos, after, guard⟩ := o
 cases op with
 | call c =>
  obtain ⟨callee, args, ats⟩ := c
  cases callee with
  | value f =>
   simp only [eL] at h ⊢;obtain ⟨x, hx, h⟩ := aG.1 h;obtain ⟨d, hd⟩ := AX.1 h;exact ⟨d, by rw [hx]; exact hd⟩
  | invoke r m => exact ⟨0, h⟩
  | builtin b => exact ⟨0, h⟩
 | makeMap t r => cases r <;> exact ⟨0, h⟩
 | slice t x lo hi mx => cases lo <;> cases hi <;> cases mx <;> exact ⟨0, h⟩
 | _ => exact ⟨0, h⟩
theorem IA {ops : Array Oper} : ∀ (l : List Oper) {A : List Value} {H : AH} {r : List Value × AH}, de P G (aF P G) ops l A H = some r → ∃ d, de P G (fK P G d) ops l A H = some r := by
 intro l
 induction l with
 | nil => intro A H r hr; exact ⟨0, hr⟩
 | cons o l ih =>
  intro A H r hr;simp only [de] at hr ⊢;obtain ⟨s, hs, hr⟩ := aG.1 hr;obtain ⟨d2, h2⟩ := ih hr
  have h1 : ∃ d, gl P G (fK P G d) ops o A H = some s := by
   unfold gl at hs ⊢
   split at hs
   ·rename_i hok
    split at hs
    ·rename_i hw
     obtain ⟨x, hx, e⟩ := bf.1 hs;obtain ⟨d, hd⟩ := ZM hx;exact ⟨d, by rw [if_pos hok, if_pos hw, hd]; exact congrArg some e⟩
    ·rename_i hw
     exact ⟨0, by rw [if_pos hok, if_neg hw]; exact hs⟩
   ·cases hs
  obtain ⟨d1, h1⟩ := h1;refine ⟨max d1 d2, ?_⟩;rw [A5 (kj (Nat.le_max_left ..)) h1];exact rx (kj (Nat.le_max_right ..)) _ h2
theorem ND (d : Nat) : UE (fK P G d) (aF P G) := fun _ _ _ _ h => AX.2 ⟨d, h⟩
theorem IB {ops : Array Oper} {draw : Bool} {A : List Value} {H : AH} {r : List Value × AH} (h : f8 P G (aF P G) ops draw A H = some r) : ∃ d, f8 P G (fK P G d) ops draw A H = some r := by
 cases draw with
 | false => exact IA _ h
 | true =>
  simp only [f8] at h ⊢;obtain ⟨h1, h2, h3⟩ := gk h;obtain ⟨d, hd⟩ := IA _ h3;refine ⟨d, ?_⟩;unfold mI;rw [h1];simp only
  cases h4 : dR ops.toList with
  | nil => exact hd
  | cons p ps =>
   simp only;rw [ko ?_]
   ·exact hd
   ·rw [← YT (ND d) hd, ← h4]; exact h2
theorem QR : ∀ (c : Code) {A : List Value} {H : AH} {r : AR}, aQ P G (aF P G) c A H = some r → ∃ d, aQ P G (fK P G d) c A H = some r := by
 intro c
 induction c with
 | region id ops draw =>
  intro A H r hr;simp only [aQ] at hr ⊢;obtain ⟨s, hs, e1⟩ := bf.1 hr;obtain ⟨d, hd⟩ := IB hs;exact ⟨d, by rw [hd]; exact congrArg some e1⟩
 | seq x y ihx ihy =>
  intro A H r hr;simp only [aQ] at hr ⊢;obtain ⟨s, hx, hr⟩ := aG.1 hr;obtain ⟨d1, h1⟩ := ihx hx
  split at hr
  ·rename_i e
   obtain ⟨d2, h2⟩ := ihy hr;refine ⟨max d1 d2, ?_⟩;rw [nL (kj (Nat.le_max_left ..)) _ h1];simp only [bG, e];exact nL (kj (Nat.le_max_right ..)) _ h2
  ·refine ⟨d1, ?_⟩
   rw [h1];simp only [bG];exact hr
 | cond c x y ihx ihy =>
  intro A H r hr;simp only [aQ] at hr ⊢
  split at hr
  ·exact ihx hr
  ·exact ihy hr
  ·cases hr
 | block id x ih =>
  intro A H r hr;simp only [aQ] at hr ⊢;obtain ⟨s, hx, e2⟩ := bf.1 hr;obtain ⟨d, hd⟩ := ih hx;exact ⟨d, by rw [hd]; exact congrArg some e2⟩
 | loop x ih =>
  intro A H r hr;simp only [aQ] at hr ⊢;obtain ⟨n, hn⟩ := dd.1 hr
  have key : ∃ d, fi (aQ P G (fK P G d) x) n A H = some r := by
   clear hr
   induction n generalizing A H with
   | zero => cases hn
   | succ n ihn =>
    simp only [fi] at hn ⊢;obtain ⟨s, hx, hr⟩ := aG.1 hn;obtain ⟨d1, h1⟩ := ih hx
    split at hr
    ·rename_i e
     obtain ⟨d2, h2⟩ := ihn hr;refine ⟨max d1 d2, ?_⟩;rw [nL (kj (Nat.le_max_left ..)) _ h1];simp only [bG, e]
     have key2 : ∀ (n : Nat) {A : List Value} {H : AH} {r : AR}, fi (aQ P G (fK P G d2) x) n A H = some r → fi (aQ P G (fK P G (max d1 d2)) x) n A H = some r := by
      intro n
      induction n with
      | zero => intro A H r h; cases h
      | succ n ih2 =>
       intro A H r h;simp only [fi] at h ⊢;obtain ⟨s, hx, hr⟩ := aG.1 h;rw [nL (kj (Nat.le_max_right d1 d2)) _ hx];simp only [bG]
       split at hr
       ·exact ih2 hr
       ·exact hr
     exact key2 n h2
    ·refine ⟨d1, ?_⟩
     rw [h1];simp only [bG];exact hr
  obtain ⟨d, hd⟩ := key;exact ⟨d, dd.2 ⟨n, hd⟩⟩
 | _ => intro A H r hr; exact ⟨0, hr⟩
theorem af4 {f : Nat} {fn : Func} {c : Code} (hf : P.funcs[f]? = some fn) (hb : fn.body = some c) (hn : fn.name ≠ "runtime.NumGoroutine") (hds : kI c = none) {args : List Value} {H : AH} {r : Value × AH}
 (h : pd P G (aF P G) fn.ntmps fn.results.toList c args H = some r) : aF P G f args H = some r := by
 unfold pd at h;obtain ⟨s, hs, h⟩ := aG.1 h;obtain ⟨d, hd⟩ := QR _ hs;refine AX.2 ⟨d + 1, ?_⟩;simp only [fK, hf, hb, if_neg hn, hds, pd, hd, bG];exact h
end
section
variable {R : Type}
abbrev tb {α β : Type} (x : Option α) (f : α → Option β) : Option β :=
 match x with
 | some a => f a
 | none => none
theorem Ki {α β : Type} (x : Option α) (f : α → Option β) : tb x f = x.bind f := by cases x <;> rfl
abbrev gD (P : Program) (b : Builtin) (argTypes : Array TypeId) (args : List Value) (H : AH) (k : Value → AH → Option R) : Option R :=
 match b, args with
 | .len, [x] => match (argTypes[0]?).bind fun t => P.underlying t with
  | some (.slice _) => match x with | .slice _ n _ => k (.int .i64 n) H | _ => none
  | some .string => match x with | .string s => k (.int .i64 s.size) H | _ => none
  | some (.map _ _) => (na x H).bind fun v => k v H
  | _ => none
 | .max, args => (ir args).bind fun v => k v H
 | .min, args => (jz args).bind fun v => k v H
 | .append, [s, x] => (argTypes[0]?).bind fun t => (cD P t).bind fun el => (cK P el).bind fun e => (fW P el).bind fun by' => (bR P el).bind fun z =>
  if z.cells.size = e ∧ (argTypes[1]?).bind (fun u => cD P u) = some el then (e8 e by' s x H).bind fun r => k r.1 r.2 else none
 | .delete, [m, key] => (argTypes[0]?).bind fun t => (cE P t).bind fun kt => (cR P kt.1).bind fun fl => (m6 fl m key H).bind fun H' => k (.tuple #[]) H'
 | _, _ => none
abbrev pO (P : Program) (call : bE) (ev : Operand → Value) (o : Oper) (H : AH) (k : Value → AH → Option R) : Option R :=
 match o.op with
 | .move x => k (ev x) H
 | .assign x => k (ev x) H
 | .pick c a b => (aM (ev c) (ev a) (ev b)).bind fun v => k v H
 | .alloc t => (bR P t).bind fun z => k (.pointer (some ⟨H.size, 0, none⟩)) (H.push (.cells false z.cells.toList))
 | .box _ x => k (.pointer (some ⟨H.size, 0, none⟩)) (H.push (.cells false (ev x).cells.toList))
 | .build t parts => match P.underlying t with
  | some (.struct fs) => (bR P t).bind fun z => (jo P fs.toList).bind fun ps => (dj (ps[·]?) z.cells.toList (parts.toList.map fun p => (p.1, ev p.2))).bind fun cs => k (.agg cs.toArray) H
  | some (.array _ el) => (bR P t).bind fun z => (cK P el).bind fun e => (dj (fun i => some (i * e, e)) z.cells.toList (parts.toList.map fun p => (p.1, ev p.2))).bind fun cs => k (.agg cs.toArray) H
  | _ => none
 | .buildSlice t len parts => (cD P t).bind fun el => (cK P el).bind fun e => (bR P el).bind fun z =>
  if 0 < e ∧ z.cells.size = e ∧ len * e ≤ 2 ^ 24 then
   (dj (fun i => some (i * e, e)) (List.replicate len z.cells.toList).flatten (parts.toList.map fun p => (p.1, ev p.2))).bind fun cs => k (.slice (some ⟨H.size, 0, none⟩) len e) (H.push (.cells false cs))
  else none
 | .load t a => (fL P t).bind fun g => match g with
  | some n => (ay n (ev a) H).bind fun v => k v H
  | none => (aq (ev a) H).bind fun v => k v H
 | .store t a x => (cK P t).bind fun n => (cB n (ev a) (ev x) H).bind fun H' => k undef H'
 | .nilCheck x => (tG (ev x)).bind fun v => k v H
 | .binOp op t x y _ => (ak (yn P t) op (ev x) (ev y)).bind fun v => k v H
 | .unOp op _ x => (oW op (ev x)).bind fun v => k v H
 | .convert src dst x => match P.underlying src with
  | some _ => (cF (qt P dst) (ev x)).bind fun v => k v H
  | none => none
 | .makeFunc fn first captured => k (.func fn (first.map ev) (captured.map ev)) H
 | .makeMap _ none => k (.map (some H.size)) (H.push (.map [] 0))
 | .makeSlice t l c => (cD P t).bind fun el => (cK P el).bind fun e => (fW P el).bind fun by' => (bR P el).bind fun z => (mv z.cells.toList e by' (ev l) (ev c) H).bind fun r => k r.1 r.2
 | .slice t x lo hi none => (cD P t).bind fun el => (cK P el).bind fun e => (fE e (ev x) (lo.map ev) (hi.map ev)).bind fun v => k v H
 | .slice t x none (some hi) (some mx) => (cD P t).bind fun el => (cK P el).bind fun _ => (jn (ev x) (ev hi) (ev mx)).bind fun v => k v H
 | .fieldAddr s x f => (jY P s f).bind fun f => (cK P f.type).bind fun n => if n = 0 then none else (DW f.offset (ev x)).bind fun v => k v H
 | .field s x f => (jY P s f).bind fun f => (fL P f.type).bind fun n => (kW n f.offset (ev x)).bind fun v => k v H
 | .indexAddr t x i => match P.underlying t with
  | some (.slice el) => (cK P el).bind fun e => (oh e (ev x) (ev i)).bind fun v => k v H
  | some (.array len el) => (cK P el).bind fun e => (iV len e (ev x) (ev i)).bind fun v => k v H
  | _ => none
 | .index t x i => match P.underlying t with
  | some (.array len el) => (cK P el).bind fun e => (fL P el).bind fun n => (jm len n e (ev x) (ev i)).bind fun v => k v H
  | some .string => (jl (ev x) (ev i)).bind fun v => k v H
  | _ => none
 | .lookup t m key ok => (cE P t).bind fun kt => (cR P kt.1).bind fun fl => (bR P kt.2).bind fun z => (cU fl z (ev m) (ev key) ok H).bind fun v => k v H
 | .mapUpdate t m key x => (cE P t).bind fun kt => (cR P kt.1).bind fun fl => (eJ fl (ev m) (ev key) (ev x) H).bind fun H' => k undef H'
 | .extract t i => (ag (ev t) i).bind fun v => k v H
 | .call c => match c.callee with
  | .builtin b => gD P b c.argTypes (c.args.toList.map ev) H k
  | .value f => (db (ev f) (c.args.toList.map ev)).bind fun fa => (call fa.1 fa.2 H).bind fun r => k r.1 r.2
  | _ => none
 | _ => none
abbrev Bj (P : Program) (b : Builtin) (argTypes : Array TypeId) (args : List Value) (H : AH) (k : Value → AH → Option R) : Option R :=
 match b, args with
 | .len, [x] => match (argTypes[0]?).bind fun t => P.underlying t with
  | some (.slice _) => match x with | .slice _ n _ => k (.int .i64 n) H | _ => none
  | some .string => match x with | .string s => k (.int .i64 s.size) H | _ => none
  | some (.map _ _) => (na x H).bind fun v => k v H
  | _ => none
 | .max, args => (ir args).bind fun v => k v H
 | .min, args => (jz args).bind fun v => k v H
 | .append, [s, x] => tb (argTypes[0]?) fun t => tb (cD P t) fun el => tb (cK P el) fun e => tb (fW P el) fun by' => tb (bR P el) fun z =>
  if z.cells.size = e ∧ (argTypes[1]?).bind (fun u => cD P u) = some el then (e8 e by' s x H).bind fun r => k r.1 r.2 else none
 | .delete, [m, key] => tb (argTypes[0]?) fun t => tb (cE P t) fun kt => tb (cR P kt.1) fun fl => (m6 fl m key H).bind fun H' => k (.tuple #[]) H'
 | _, _ => none
abbrev cOp (P : Program) (call : bE) (ev : Operand → Value) (o : Oper) (H : AH) (k : Value → AH → Option R) : Option R :=
 match o.op with
 | .move x => k (ev x) H
 | .assign x => k (ev x) H
 | .pick c a b => (aM (ev c) (ev a) (ev b)).bind fun v => k v H
 | .alloc t => tb (bR P t) fun z => k (.pointer (some ⟨H.size, 0, none⟩)) (H.push (.cells false z.cells.toList))
 | .box _ x => k (.pointer (some ⟨H.size, 0, none⟩)) (H.push (.cells false (ev x).cells.toList))
 | .build t parts => match P.underlying t with
  | some (.struct fs) => tb (bR P t) fun z => tb (jo P fs.toList) fun ps => (dj (ps[·]?) z.cells.toList (parts.toList.map fun p => (p.1, ev p.2))).bind fun cs => k (.agg cs.toArray) H
  | some (.array _ el) => tb (bR P t) fun z => tb (cK P el) fun e => (dj (fun i => some (i * e, e)) z.cells.toList (parts.toList.map fun p => (p.1, ev p.2))).bind fun cs => k (.agg cs.toArray) H
  | _ => none
 | .buildSlice t len parts => tb (cD P t) fun el => tb (cK P el) fun e => tb (bR P el) fun z =>
  if 0 < e ∧ z.cells.size = e ∧ len * e ≤ 2 ^ 24 then
   (dj (fun i => some (i * e, e)) (List.replicate len z.cells.toList).flatten (parts.toList.map fun p => (p.1, ev p.2))).bind fun cs => k (.slice (some ⟨H.size, 0, none⟩) len e) (H.push (.cells false cs))
  else none
 | .load t a => tb (fL P t) fun g => match g with
  | some n => (ay n (ev a) H).bind fun v => k v H
  | none => (aq (ev a) H).bind fun v => k v H
 | .store t a x => tb (cK P t) fun n => (cB n (ev a) (ev x) H).bind fun H' => k undef H'
 | .nilCheck x => (tG (ev x)).bind fun v => k v H
 | .binOp op t x y _ => (ak (yn P t) op (ev x) (ev y)).bind fun v => k v H
 | .unOp op _ x => (oW op (ev x)).bind fun v => k v H
 | .convert src dst x => match P.underlying src with
  | some _ => (cF (qt P dst) (ev x)).bind fun v => k v H
  | none => none
 | .makeFunc fn first captured => k (.func fn (first.map ev) (captured.map ev)) H
 | .makeMap _ none => k (.map (some H.size)) (H.push (.map [] 0))
 | .makeSlice t l c => tb (cD P t) fun el => tb (cK P el) fun e => tb (fW P el) fun by' => tb (bR P el) fun z => (mv z.cells.toList e by' (ev l) (ev c) H).bind fun r => k r.1 r.2
 | .slice t x lo hi none => tb (cD P t) fun el => tb (cK P el) fun e => (fE e (ev x) (lo.map ev) (hi.map ev)).bind fun v => k v H
 | .slice t x none (some hi) (some mx) => tb (cD P t) fun el => tb (cK P el) fun _ => (jn (ev x) (ev hi) (ev mx)).bind fun v => k v H
 | .fieldAddr s x f => tb (jY P s f) fun f => tb (cK P f.type) fun n => if n = 0 then none else (DW f.offset (ev x)).bind fun v => k v H
 | .field s x f => tb (jY P s f) fun f => tb (fL P f.type) fun n => (kW n f.offset (ev x)).bind fun v => k v H
 | .indexAddr t x i => match P.underlying t with
  | some (.slice el) => tb (cK P el) fun e => (oh e (ev x) (ev i)).bind fun v => k v H
  | some (.array len el) => tb (cK P el) fun e => (iV len e (ev x) (ev i)).bind fun v => k v H
  | _ => none
 | .index t x i => match P.underlying t with
  | some (.array len el) => tb (cK P el) fun e => tb (fL P el) fun n => (jm len n e (ev x) (ev i)).bind fun v => k v H
  | some .string => (jl (ev x) (ev i)).bind fun v => k v H
  | _ => none
 | .lookup t m key ok => tb (cE P t) fun kt => tb (cR P kt.1) fun fl => tb (bR P kt.2) fun z => (cU fl z (ev m) (ev key) ok H).bind fun v => k v H
 | .mapUpdate t m key x => tb (cE P t) fun kt => tb (cR P kt.1) fun fl => (eJ fl (ev m) (ev key) (ev x) H).bind fun H' => k undef H'
 | .extract t i => (ag (ev t) i).bind fun v => k v H
 | .call c => match c.callee with
  | .builtin b => Bj P b c.argTypes (c.args.toList.map ev) H k
  | .value f => (db (ev f) (c.args.toList.map ev)).bind fun fa => (call fa.1 fa.2 H).bind fun r => k r.1 r.2
  | _ => none
 | _ => none
theorem gr {α β γ : Type} (x : Option α) (b : β) (k : α → β → Option γ) : ((x.map (·, b)).bind fun r => k r.1 r.2) = x.bind fun v => k v b := by cases x <;> rfl
theorem xl {β γ : Type} (x : Option β) (v : Value) (k : Value → β → Option γ) : ((x.map fun H' => (v, H')).bind fun r => k r.1 r.2) = x.bind fun H' => k v H' := by cases x <;> rfl
theorem FM (P : Program) (b : Builtin) (ts : Array TypeId) (args : List Value) (H : AH) (k : Value → AH → Option R) : gD P b ts args H k = (cQ P b ts args H).bind fun r => k r.1 r.2 := by
 cases b with
 | len =>
  match args with
  | [] => rfl
  | [x] =>
   simp only [gD, cQ]
   cases (ts[0]?).bind fun t => P.underlying t with
   | none => rfl
   | some d => cases d <;> first | rfl | (cases x <;> rfl) | (simp only [gr])
  | x :: y :: zs => rfl
 | max => simp only [gD, cQ, gr]
 | min => simp only [gD, cQ, gr]
 | append =>
  match args with
  | [] => rfl
  | [x] => rfl
  | [s, x] =>
   simp only [gD, cQ, Option.bind_assoc]
   congr 1; funext t; congr 1; funext el; congr 1; funext e; congr 1; funext b; congr 1; funext z
   split
   ·rfl
   ·rfl
  | x :: y :: z :: zs => rfl
 | delete =>
  match args with
  | [] => rfl
  | [x] => rfl
  | [s, x] => simp only [gD, cQ, Option.bind_assoc, xl]
  | x :: y :: z :: zs => rfl
 | _ => rfl
theorem ZU (P : Program) (call : bE) (ev : Operand → Value) (o : Oper) (H : AH) (k : Value → AH → Option R) : pO P call ev o H k = (eL P call ev o H).bind fun r => k r.1 r.2 := by
 obtain ⟨dst, op, type, pos, after, guard⟩ := o
 cases op with
 | call c =>
  obtain ⟨callee, args, ats⟩ := c
  cases callee with
  | value f => simp only [pO, eL, Option.bind_assoc]
  | invoke r m => rfl
  | builtin b => simp only [pO, eL]; exact FM ..
 | makeMap t r => cases r <;> rfl
 | slice t x lo hi mx =>
  cases mx with
  | none => simp only [pO, eL, Option.bind_assoc, gr]
  | some m => cases lo <;> cases hi <;> first | rfl | (simp only [pO, eL, Option.bind_assoc, gr])
 | load t a =>
  simp only [pO, eL, Option.bind_assoc]
  congr 1
  funext g
  cases g <;> simp only [gr]
 | build t parts =>
  simp only [pO, eL]
  cases P.underlying t with
  | none => rfl
  | some d => cases d <;> first | rfl | (simp only [Option.bind_assoc, Option.bind_map]; rfl)
 | buildSlice t len parts =>
  simp only [pO, eL, Option.bind_assoc]
  congr 1; funext el; congr 1; funext e; congr 1; funext z
  split
  ·rw [Option.bind_map]; rfl
  ·rfl
 | fieldAddr s x f =>
  simp only [pO, eL, Option.bind_assoc]
  congr 1; funext el; congr 1; funext e
  split
  ·rfl
  ·rw [gr]
 | alloc t => simp only [pO, eL, Option.bind_map]; rfl
 | indexAddr t x i =>
  simp only [pO, eL]
  cases P.underlying t with
  | none => rfl
  | some d => cases d <;> first | rfl | (simp only [Option.bind_assoc, gr])
 | index t x i =>
  simp only [pO, eL]
  cases P.underlying t with
  | none => rfl
  | some d => cases d <;> first | rfl | (simp only [Option.bind_assoc, gr])
 | convert s d x =>
  simp only [pO, eL]
  cases P.underlying s with
  | none => rfl
  | some d => simp only [gr]
 | store t x y => simp only [pO, eL, Option.bind_assoc, xl]
 | mapUpdate t m key x => simp only [pO, eL, Option.bind_assoc, xl]
 | _ => first | rfl | (simp only [pO, eL, Option.bind_assoc, gr]; done)
theorem KZ (P : Program) (b : Builtin) (ts : Array TypeId) (args : List Value) (H : AH) (k : Value → AH → Option R) : Bj P b ts args H k = gD P b ts args H k := by
 unfold Bj gD;simp only [Ki]
theorem af9 (P : Program) (call : bE) (ev : Operand → Value) (o : Oper) (H : AH) (k : Value → AH → Option R) : cOp P call ev o H k = pO P call ev o H k := by
 unfold cOp pO;simp only [Ki, KZ]
theorem U3 (P : Program) (call : bE) (ev : Operand → Value) (o : Oper) (H : AH) (k : Value → AH → Option R) : cOp P call ev o H k = (eL P call ev o H).bind fun r => k r.1 r.2 := (af9 ..).trans (ZU ..)
def G7 (op : Op) : Bool := kG op == 0 || kG op == 2
theorem S5 {P : Program} {call : bE} {ev : Operand → Value} {o : Oper} {H : AH} (h : G7 o.op = true) : eL P call ev o H = (cOp P call ev o H fun v _ => some v).map (·, H) := by
 rw [U3]
 cases hx : eL P call ev o H with
 | none => rfl
 | some r =>
  obtain ⟨v, H'⟩ := r;simp only [bG, e6];unfold G7 at h;simp only [Bool.or_eq_true, beq_iff_eq] at h
  rcases h with h | h
  ·rw [(uo h hx).1]
  ·rw [AZ h] at hx
   obtain ⟨y, _, e⟩ := bf.1 hx;rw [(Prod.mk.inj e).2]
abbrev NV (P : Program) (G : List Nat) (call : bE) (ops : Array Oper) (o : Oper) (A : List Value) (H : AH) (k : List Value → AH → Option R) : Option R :=
 match o.op.operands.toList.all (KF G) with
 | true => match o.guard with
  | none => cOp P call (fM A) o H fun v H' => k (lc A o.dst v) H'
  | some g => match G7 o.op with
   | true => (match dH ops A g.1 == some g.2 with
    | true => cOp P call (fM A) o H fun v _ => some v
    | false => some undef).bind fun v => k (lc A o.dst v) H
   | false => (match dH ops A g.1 == some g.2 with
    | true => eL P call (fM A) o H
    | false => some (undef, H)).bind fun r => k (lc A o.dst r.1) r.2
 | false => none
theorem IP (P : Program) (G : List Nat) (call : bE) (ops : Array Oper) (o : Oper) (A : List Value) (H : AH) (k : List Value → AH → Option R) : NV P G call ops o A H k = (gl P G call ops o A H).bind fun s => k s.1 s.2 := by
 unfold NV gl
 cases o.op.operands.toList.all (KF G) with
 | false => rfl
 | true =>
  simp only [if_true];unfold Region.wanted
  cases o.guard with
  | none =>
   simp only [if_true];rw [U3, Option.bind_map]; rfl
  | some g =>
   obtain ⟨g, want⟩ := g;simp only
   cases hl : G7 o.op with
   | true =>
    simp only
    by_cases h : (dH ops A g == some want) = true
    ·rw [if_pos h, h, S5 hl]
     simp only
     cases (cOp P call (fM A) o H fun v _ => some v) <;> rfl
    ·rw [if_neg h, Bool.eq_false_iff.2 h]; rfl
   | false =>
    simp only
    by_cases h : (dH ops A g == some want) = true
    ·rw [if_pos h, h, Option.bind_map]; rfl
    ·rw [if_neg h, Bool.eq_false_iff.2 h]; rfl
abbrev U4 (P : Program) (G : List Nat) (call : bE) (ops : Array Oper) : List Oper → List Value → AH → (List Value → AH → Option R) → Option R
 | [], A, H, k => k A H
 | o :: rest, A, H, k => NV P G call ops o A H fun A' H' => U4 P G call ops rest A' H' k
theorem NU (P : Program) (G : List Nat) (call : bE) (ops : Array Oper) : ∀ (l : List Oper) (A : List Value) (H : AH) (k : List Value → AH → Option R), U4 P G call ops l A H k = (de P G call ops l A H).bind fun s => k s.1 s.2 := by
 intro l
 induction l with
 | nil => intro A H k; rfl
 | cons o l ih =>
  intro A H k;simp only [U4, de];rw [IP, Option.bind_assoc]
  congr 1
  funext s
  exact ih _ _ _
noncomputable def bS {R : Type} (x y : Option Value) (k : Option R) : Option R := IQ (x = y) k
theorem aeF {R : Type} {x y : Option Value} (h : x = y) (k : Option R) : bS x y k = k := ko h k
noncomputable abbrev Q8 {R : Type} (j : Nat) (hist : List ((AH → Option Value) × AH)) (rd : AH → Option Value) (H H' : AH) (k : Option R) : List (Nat × Nat) → Option R
 | [] => k
 | pq :: rest => match pq.1 == j with
  | true => match Nat.blt pq.2 j with
   | true => match hist[pq.2]? with
    | some h => bS (rd h.2) (rd H) (Q8 j hist rd H H' k rest)
    | none => none
   | false => Q8 j hist rd H H' k rest
  | false => match pq.2 == j with
   | true => match Nat.blt pq.1 j with
    | true => match hist[pq.1]? with
     | some h => bS (h.1 H') (h.1 h.2) (Q8 j hist rd H H' k rest)
     | none => none
    | false => Q8 j hist rd H H' k rest
   | false => Q8 j hist rd H H' k rest
theorem IR {α β : Type} (p : Prop) (x : Option α) (k : α → Option β) : (IQ p x).bind k = IQ p (x.bind k) := by unfold IQ; split <;> rfl
theorem Va {α β : Type} {j : Nat} {hist : List ((AH → Option Value) × AH)} {rd : AH → Option Value} {H H' : AH} (x : Option α) (k : α → Option β) : ∀ l, (Q8 j hist rd H H' x l).bind k = Q8 j hist rd H H' (x.bind k) l := by
 intro l
 induction l with
 | nil => rfl
 | cons p l ih =>
  simp only [Q8]
  cases p.1 == j with
  | true =>
   cases Nat.blt p.2 j with
   | true =>
    simp only
    cases hist[p.2]? with
    | none => rfl
    | some h => simp only [bS]; rw [IR, ih]
   | false => exact ih
  | false =>
   cases p.2 == j with
   | true =>
    cases Nat.blt p.1 j with
    | true =>
     simp only
     cases hist[p.1]? with
     | none => rfl
     | some h => simp only [bS]; rw [IR, ih]
    | false => exact ih
   | false => exact ih
def Uz (j : Nat) (hist : List ((AH → Option Value) × AH)) (rd : AH → Option Value) (H H' : AH) (p : Nat × Nat) : Prop :=
 (p.1 = j → p.2 < j → ∃ h, hist[p.2]? = some h ∧ rd h.2 = rd H) ∧ (p.2 = j → p.1 < j → ∃ h, hist[p.1]? = some h ∧ h.1 H' = h.1 h.2)
theorem NX {α : Type} {p : Prop} {x : Option α} {r : α} : IQ p x = some r ↔ p ∧ x = some r := ⟨nO, fun h => by rw [ko h.1]; exact h.2⟩
theorem NZ {α : Type} {j : Nat} {hist : List ((AH → Option Value) × AH)} {rd : AH → Option Value} {H H' : AH} {x : Option α} {r : α} : ∀ {l}, Q8 j hist rd H H' x l = some r ↔ (∀ p ∈ l, Uz j hist rd H H' p) ∧ x = some r := by
 intro l
 induction l with
 | nil => simp [Q8]
 | cons p l ih =>
  have split : (∀ q ∈ p :: l, Uz j hist rd H H' q) ↔ Uz j hist rd H H' p ∧ ∀ q ∈ l, Uz j hist rd H H' q := by simp
  rw [split, and_assoc, ← ih];simp only [Q8]
  by_cases h1 : p.1 = j
  ·have e1 : (p.1 == j) = true := by simpa using h1
   rw [e1];simp only
   by_cases h2 : p.2 < j
   ·have e2 : Nat.blt p.2 j = true := by simpa [Nat.blt_eq] using h2
    rw [e2];simp only
    have hn : ¬ p.2 = j := by omega
    unfold Uz
    cases hist[p.2]? with
    | none => simp [h1, h2]
    | some h => simp only [bS]; rw [NX]; simp [h1, h2, hn]
   ·have e2 : Nat.blt p.2 j = false := by rw [Bool.eq_false_iff]; intro h; exact h2 (by simpa [Nat.blt_eq] using h)
    rw [e2];simp only;have : Uz j hist rd H H' p := ⟨fun _ h => absurd h h2, fun _ h => absurd h (by omega)⟩;simp [this]
  ·have e1 : (p.1 == j) = false := by simpa using h1
   rw [e1];simp only
   by_cases h2 : p.2 = j
   ·have e2 : (p.2 == j) = true := by simpa using h2
    rw [e2];simp only
    by_cases h3 : p.1 < j
    ·have e3 : Nat.blt p.1 j = true := by simpa [Nat.blt_eq] using h3
     rw [e3];simp only;unfold Uz
     cases hist[p.1]? with
     | none => simp [h1, h2, h3]
     | some h => simp only [bS]; rw [NX]; simp [h1, h2, h3]
    ·have e3 : Nat.blt p.1 j = false := by rw [Bool.eq_false_iff]; intro h; exact h3 (by simpa [Nat.blt_eq] using h)
     rw [e3];simp only;have : Uz j hist rd H H' p := ⟨fun h => absurd h h1, fun _ h => absurd h h3⟩;simp [this]
   ·have e2 : (p.2 == j) = false := by simpa using h2
    rw [e2];simp only;have : Uz j hist rd H H' p := ⟨fun h => absurd h h1, fun h => absurd h h2⟩;simp [this]
abbrev HU (P : Program) (A : List Value) (o : Oper) : AH → Option Value := fun H => A4 P (fM A) o.op H
noncomputable def pW (P : Program) (G : List Nat) (call : bE) (ops : Array Oper) (pairs : List (Nat × Nat)) : List Oper → Nat → List ((AH → Option Value) × AH) → List Value → AH → Option (List Value × AH)
 | [], _, _, A, H => some (A, H)
 | o :: rest, j, hist, A, H => (gl P G call ops o A H).bind fun s => Q8 j hist (HU P A o) H s.2 (pW P G call ops pairs rest (j + 1) (hist ++ [(HU P A o, H)]) s.1 s.2) pairs
noncomputable abbrev NT (P : Program) (G : List Nat) (call : bE) (ops : Array Oper) (pairs : List (Nat × Nat)) : List Oper → Nat → List ((AH → Option Value) × AH) → List Value → AH → (List Value → AH → Option R) → Option R
 | [], _, _, A, H, k => k A H
 | o :: rest, j, hist, A, H, k => NV P G call ops o A H fun A' H' => Q8 j hist (HU P A o) H H' (NT P G call ops pairs rest (j + 1) (hist ++ [(HU P A o, H)]) A' H' k) pairs
theorem U5 (P : Program) (G : List Nat) (call : bE) (ops : Array Oper) (pairs : List (Nat × Nat)) : ∀ (l : List Oper) (j : Nat) (hist : List ((AH → Option Value) × AH)) (A : List Value) (H : AH) (k : List Value → AH → Option R), NT P G call ops pairs l j hist A H k = (pW P G call ops pairs l j hist A H).bind fun s => k s.1 s.2 := by
 intro l
 induction l with
 | nil => intro j hist A H k; rfl
 | cons o l ih =>
  intro j hist A H k;simp only [NT, pW];rw [IP, Option.bind_assoc]
  congr 1
  funext s
  rw [Va, ih]
theorem QV {P : Program} {G : List Nat} {call : bE} {ops : Array Oper} {pairs : List (Nat × Nat)} {A0 : List Value} {H0 : AH} {r0 : List Value × AH} (h0 : de P G call ops ops.toList A0 H0 = some r0) (hp : ∀ p ∈ pairs, p.1 < ops.size ∧ p.2 < ops.size ∧ p.1 ≠ p.2) :
 ∀ (l : List Oper) (j : Nat) (hist : List ((AH → Option Value) × AH)), ops.toList.drop j = l → hist.length = j → (∀ i, i < j → ∃ o, ops[i]? = some o ∧ hist[i]? = some (HU P (jB P G call ops A0 H0 i).1 o, (jB P G call ops A0 H0 i).2)) →
  ∀ r, pW P G call ops pairs l j hist (jB P G call ops A0 H0 j).1 (jB P G call ops A0 H0 j).2 = some r ↔ (∀ p ∈ pairs, j ≤ max p.1 p.2 → jG P (jB P G call ops A0 H0) ops p) ∧ r = r0 := by
 intro l
 induction l with
 | nil =>
  intro j hist hl hlen hh r
  have hj : ops.size ≤ j := by
   have := congrArg List.length hl;simp at this; omega
  have hst : jB P G call ops A0 H0 j = r0 := by
   unfold jB;rw [List.take_of_length_le (by simpa using hj), h0]; rfl
  simp only [pW, hst]
  constructor
  ·intro e
   exact ⟨fun p hpm hm => absurd (hp p hpm) (by omega), (e7 e).symm⟩
  ·rintro ⟨_, rfl⟩; rfl
 | cons o l ih =>
  intro j hist hl hlen hh r
  have hj : ops.toList[j]? = some o := by
   have := congrArg (·[0]?) hl
   simpa using this
  have ho : ops[j]? = some o := by simpa using hj
  have hjs : j < ops.size := by
   have := (DS.1 hj).1
   simpa using this
  have hstep := J9 h0 ho
  have hl' : ops.toList.drop (j + 1) = l := by
   have := congrArg (List.drop 1) hl
   simpa [List.drop_drop, Nat.add_comm] using this
  have hh' : ∀ i, i < j + 1 → ∃ o', ops[i]? = some o' ∧ (hist ++ [(HU P (jB P G call ops A0 H0 j).1 o, (jB P G call ops A0 H0 j).2)])[i]? = some (HU P (jB P G call ops A0 H0 i).1 o', (jB P G call ops A0 H0 i).2) := by
   intro i hi
   by_cases e : i = j
   ·subst e
    exact ⟨o, ho, by rw [List.getElem?_append_right (by omega)]; simp [hlen]⟩
   ·obtain ⟨o', h1, h2⟩ := hh i (by omega)
    exact ⟨o', h1, by rw [List.getElem?_append_left (by omega)]; exact h2⟩
  have hi := ih (j + 1) _ hl' (by simp [hlen]) hh' r;simp only [pW];rw [hstep];simp only [bG];rw [NZ, hi]
  have key : ∀ p ∈ pairs, max p.1 p.2 = j → (Uz j hist (HU P (jB P G call ops A0 H0 j).1 o) (jB P G call ops A0 H0 j).2 (jB P G call ops A0 H0 (j + 1)).2 p ↔ jG P (jB P G call ops A0 H0) ops p) := by
   intro p hpm hm;obtain ⟨h1, h2, h3⟩ := hp p hpm;unfold Uz jG
   by_cases hlt : p.2 < p.1
   ·have e1 : p.1 = j := by omega
    obtain ⟨o2, _, hg⟩ := hh p.2 (by omega);rw [if_pos hlt]
    constructor
    ·intro ⟨a, _⟩ o' ho'
     rw [e1, ho] at ho';cases ho';obtain ⟨h, hg', e⟩ := a e1 (by omega);rw [hg] at hg';cases hg';rw [e1];exact e
    ·intro a
     refine ⟨fun _ _ => ⟨_, hg, ?_⟩, fun e => absurd e (by omega)⟩;have := a o (by rw [e1]; exact ho);rw [e1] at this;exact this
   ·have e2 : p.2 = j := by omega
    obtain ⟨o1, ho1, hg⟩ := hh p.1 (by omega);rw [if_neg hlt, e2]
    constructor
    ·intro ⟨_, a⟩ o' ho'
     rw [ho1] at ho';cases ho';obtain ⟨h, hg', e⟩ := a rfl (by omega);rw [hg] at hg';cases hg';exact e
    ·intro a
     refine ⟨fun e => absurd e (by omega), fun _ _ => ⟨_, hg, a o1 ho1⟩⟩
  have out : ∀ p ∈ pairs, max p.1 p.2 ≠ j → Uz j hist (HU P (jB P G call ops A0 H0 j).1 o) (jB P G call ops A0 H0 j).2 (jB P G call ops A0 H0 (j + 1)).2 p := by
   intro p hpm hm;exact ⟨fun h1 h2 => absurd hm (by omega), fun h1 h2 => absurd hm (by omega)⟩
  constructor
  ·rintro ⟨a, b, c⟩
   refine ⟨fun p hpm hm => ?_, c⟩
   by_cases e : max p.1 p.2 = j
   ·exact (key p hpm e).1 (a p hpm)
   ·exact b p hpm (by omega)
  ·rintro ⟨a, c⟩
   refine ⟨fun p hpm => ?_, fun p hpm hm => a p hpm (by omega), c⟩
   by_cases e : max p.1 p.2 = j
   ·exact (key p hpm e).2 (a p hpm (by omega))
   ·exact out p hpm e
theorem KO {P : Program} {G : List Nat} {call : bE} {ops : Array Oper} {pairs : List (Nat × Nat)} : ∀ (l : List Oper) (j : Nat) (hist : List ((AH → Option Value) × AH)) (A : List Value) (H : AH) (r : List Value × AH), pW P G call ops pairs l j hist A H = some r → de P G call ops l A H = some r := by
 intro l
 induction l with
 | nil => intro j hist A H r h; exact h
 | cons o l ih =>
  intro j hist A H r h;simp only [pW] at h;obtain ⟨s, hs, h⟩ := aG.1 h;simp only [de];rw [hs];exact ih _ _ _ _ _ (NZ.1 h).2
theorem He {ops : Array Oper} : ∀ p ∈ dR ops.toList, p.1 < ops.size ∧ p.2 < ops.size ∧ p.1 ≠ p.2 := by
 intro p hp;unfold dR at hp;simp only [List.mem_flatMap, List.mem_filter, List.mem_map] at hp;obtain ⟨x, ⟨hx, hx2⟩, y, ⟨hy, hy2⟩, rfl⟩ := hp;have hx := List.mem_zipIdx hx;have hy := List.mem_zipIdx hy;simp only [beq_iff_eq] at hx2;simp only [Bool.and_eq_true, beq_iff_eq] at hy2;refine ⟨by have := hx.2.1; simpa using this, by have := hy.2.1; simpa using this, ?_⟩;intro e;simp only at e;have e3 := hy2.1.1;have ex := hx.2.2;have ey := hy.2.2;simp only [e, Nat.sub_zero] at ex ey
 have : x.1 = y.1 := by rw [ex, ey]
 rw [this, e3] at hx2;cases hx2
theorem K5 {P : Program} {G : List Nat} {call : bE} {ops : Array Oper} {pairs : List (Nat × Nat)} (hp : ∀ p ∈ pairs, p.1 < ops.size ∧ p.2 < ops.size ∧ p.1 ≠ p.2) (A : List Value) (H : AH) :
 IQ (∀ q ∈ pairs, jG P (jB P G call ops A H) ops q) (de P G call ops ops.toList A H) = pW P G call ops pairs ops.toList 0 [] A H := by
 cases hx : de P G call ops ops.toList A H with
 | none =>
  cases hy : pW P G call ops pairs ops.toList 0 [] A H with
  | none => unfold IQ; split <;> rfl
  | some r => have := KO _ _ _ _ _ _ hy; rw [hx] at this; cases this
 | some r0 =>
  have hi := QV hx hp ops.toList 0 [] rfl rfl (fun i hi => absurd hi (by omega));simp only [YU] at hi
  cases hy : pW P G call ops pairs ops.toList 0 [] A H with
  | none =>
   cases hz : IQ (∀ q ∈ pairs, jG P (jB P G call ops A H) ops q) (some r0) with
   | none => rfl
   | some r =>
    obtain ⟨h1, h2⟩ := nO hz;have := (hi r0).2 ⟨fun p hpm _ => h1 p hpm, rfl⟩;rw [hy] at this; cases this
  | some r =>
   obtain ⟨h1, h2⟩ := (hi r).1 hy;rw [ko (fun p hpm => h1 p hpm (by omega)), h2]
noncomputable abbrev FN (P : Program) (G : List Nat) (call : bE) (ops : Array Oper) (draw : Bool) (A : List Value) (H : AH) (k : List Value → AH → Option R) : Option R :=
 match draw with
 | false => U4 P G call ops ops.toList A H k
 | true => match sV ops.toList with
  | false => none
  | true => match dR ops.toList with
   | [] => U4 P G call ops ops.toList A H k
   | p :: ps => NT P G call ops (p :: ps) ops.toList 0 [] A H k
theorem K4 (P : Program) (G : List Nat) (call : bE) (ops : Array Oper) (draw : Bool) (A : List Value) (H : AH) (k : List Value → AH → Option R) : FN P G call ops draw A H k = (f8 P G call ops draw A H).bind fun s => k s.1 s.2 := by
 unfold FN f8 mI
 cases draw with
 | false => exact NU ..
 | true =>
  simp only
  cases sV ops.toList with
  | false => rfl
  | true =>
   simp only
   cases hl : dR ops.toList with
   | nil => exact NU ..
   | cons p ps =>
    simp only;rw [K5 (fun q hq => He q (by rw [hl]; exact hq)), U5]
def ZZ (kn : List Value → AH → Option R) (kx : Nat → List Value → AH → Option R) (kr : List Value → AH → Option R) (r : AR) : Option R :=
 match r.1 with
 | .normal => kn r.2.1 r.2.2
 | .exit i => kx i r.2.1 r.2.2
 | .ret => kr r.2.1 r.2.2
noncomputable def i1 (P : Program) (G : List Nat) (call : bE) (x : Code) (A : List Value) (H : AH) (kx : Nat → List Value → AH → Option R) (kr : List Value → AH → Option R) : Option R :=
 (pe (aQ P G call x) A H).bind (ZZ (fun _ _ => none) kx kr)
noncomputable abbrev bi (P : Program) (G : List Nat) (call : bE) : Code → List Value → AH → (List Value → AH → Option R) → (Nat → List Value → AH → Option R) → (List Value → AH → Option R) → Option R
 | .skip, A, H, kn, _, _ => kn A H
 | .label _, A, H, kn, _, _ => kn A H
 | .region _ ops draw, A, H, kn, _, _ => FN P G call ops draw A H kn
 | .seq x y, A, H, kn, kx, kr => bi P G call x A H (fun A H => bi P G call y A H kn kx kr) kx kr
 | .cond c x y, A, H, kn, kx, kr => match fM A c with
  | .bool true => bi P G call x A H kn kx kr
  | .bool false => bi P G call y A H kn kx kr
  | _ => none
 | .block id x, A, H, kn, kx, kr => bi P G call x A H kn (fun i A H => if i = id then kn A H else kx i A H) kr
 | .loop x, A, H, _, kx, kr => i1 P G call x A H kx kr
 | .exit id, A, H, _, kx, _ => kx id A H
 | .ret, A, H, _, _, kr => kr A H
 | _, _, _, _, _, _ => none
theorem QT {f : List Value → AH → Option AR} : ∀ {n : Nat} {A : List Value} {H : AH} {r : AR}, fi f n A H = some r → r.1 ≠ .normal := by
 intro n
 induction n with
 | zero => intro A H r h; cases h
 | succ n ih =>
  intro A H r h;simp only [fi] at h;obtain ⟨s, hs, h⟩ := aG.1 h
  split at h
  ·exact ih h
  ·rename_i e
   cases h;exact fun he => e he
theorem QU {f : List Value → AH → Option AR} {A : List Value} {H : AH} {r : AR} (h : pe f A H = some r) : r.1 ≠ .normal := by
 obtain ⟨n, hn⟩ := dd.1 h;exact QT hn
theorem uu (P : Program) (G : List Nat) (call : bE) : ∀ (c : Code) (A : List Value) (H : AH) (kn : List Value → AH → Option R) (kx : Nat → List Value → AH → Option R) (kr : List Value → AH → Option R),
 bi P G call c A H kn kx kr = (aQ P G call c A H).bind (ZZ kn kx kr) := by
 intro c
 induction c with
 | skip => intros; rfl
 | label => intros; rfl
 | exit => intros; rfl
 | ret => intros; rfl
 | region id ops draw =>
  intro A H kn kx kr;simp only [bi, aQ];rw [K4, Option.bind_map]; rfl
 | seq x y ihx ihy =>
  intro A H kn kx kr;simp only [bi, aQ];rw [ihx, Option.bind_assoc]
  congr 1
  funext r
  obtain ⟨e, A1, H1⟩ := r
  cases e with
  | normal => simp only [ZZ]; exact ihy ..
  | exit i => rfl
  | ret => rfl
 | cond c x y ihx ihy =>
  intro A H kn kx kr;simp only [bi, aQ]
  generalize fM A c = v
  cases v with
  | bool b => cases b <;> first | exact ihx .. | exact ihy ..
  | _ => rfl
 | block id x ih =>
  intro A H kn kx kr;simp only [bi, aQ];rw [ih, Option.bind_map]
  congr 1
  funext r
  obtain ⟨e, A1, H1⟩ := r
  cases e with
  | normal => rfl
  | exit i =>
   simp only [ZZ, Function.comp]
   split <;> rfl
  | ret => rfl
 | loop x ih =>
  intro A H kn kx kr;simp only [bi, aQ, i1]
  cases h : pe (aQ P G call x) A H with
  | none => rfl
  | some r =>
   simp only [bG];have := QU h;obtain ⟨e, A1, H1⟩ := r
   cases e with
   | normal => exact absurd rfl this
   | exit i => rfl
   | ret => rfl
 | rangeFunc => intros; rfl
 | scope => intros; rfl
 | goto => intros; rfl
 | refuse => intros; rfl
theorem U1 (P : Program) (G : List Nat) (call : bE) (x : Code) (A : List Value) (H : AH) (kx : Nat → List Value → AH → Option R) (kr : List Value → AH → Option R) :
 i1 P G call x A H kx kr = bi P G call x A H (fun A H => i1 P G call x A H kx kr) kx kr := by
 rw [uu];unfold i1;rw [UM, Option.bind_assoc]
 congr 1
 funext r
 obtain ⟨e, A1, H1⟩ := r
 cases e <;> rfl
abbrev sH (P : Program) (A : List Value) (H : AH) : List ResultVar → (List Value → Option R) → Option R
 | [], k => k []
 | .tmp t :: rs, k => sH P A H rs fun vs => k (A[t]?.getD undef :: vs)
 | .cell a t :: rs, k => tb (fL P t) fun g => match g with
  | some n => (ay n (A[a]?.getD undef) H).bind fun v => sH P A H rs fun vs => k (v :: vs)
  | none => (aq (A[a]?.getD undef) H).bind fun v => sH P A H rs fun vs => k (v :: vs)
theorem U2 (P : Program) (A : List Value) (H : AH) : ∀ (rs : List ResultVar) (k : List Value → Option R), sH P A H rs k = (sG P A H rs).bind k := by
 intro rs
 induction rs with
 | nil => intro k; rfl
 | cons r rs ih =>
  intro k;simp only [sG, Option.bind_assoc, bG]
  cases r with
  | tmp t =>
   simp only [sH, lg, bG];rw [ih]
  | cell a t =>
   simp only [sH, lg, Option.bind_assoc, Ki]
   congr 1
   funext g
   cases g <;> (simp only; congr 1; funext v; rw [ih])
end
def tup : List Value → Value
 | [v] => v
 | vs => .tuple vs.toArray
abbrev eO (P : Program) (rs : List ResultVar) (A : List Value) (H : AH) : Option (Value × AH) := sH P A H rs fun vs => some (tup vs, H)
noncomputable def NR (P : Program) (G : List Nat) (call : bE) (n : Nat) (rs : List ResultVar) (c : Code) (args : List Value) (H : AH) : Option (Value × AH) :=
 bi P G call c (args ++ List.replicate (n - args.length) undef) H (eO P rs) (fun _ _ _ => none) (eO P rs)
theorem NS (P : Program) (rs : List ResultVar) (A : List Value) (H : AH) : eO P rs A H = (i0 P A H rs).map (·, H) := by
 unfold eO i0;rw [U2, Option.map_map]
 cases sG P A H rs with
 | none => rfl
 | some vs =>
  simp only [bG, e6, Function.comp]
  congr 2
theorem U0 (P : Program) (G : List Nat) (call : bE) (n : Nat) (rs : List ResultVar) (c : Code) (args : List Value) (H : AH) : NR P G call n rs c args H = pd P G call n rs c args H := by
 unfold NR pd;rw [uu]
 congr 1
 funext r
 obtain ⟨e, A1, H1⟩ := r
 cases e with
 | normal => exact NS ..
 | exit i => rfl
 | ret => exact NS ..
def bQ (fn : Func) : Code := fn.body.getD .skip
theorem KN {P : Program} {G : List Nat} {f : Nat} {fn : Func} (hf : P.funcs[f]? = some fn) (hb : fn.body.isSome = true) (hn : (fn.name == "runtime.NumGoroutine") = false) (hd : kI (bQ fn) = none) {args : List Value} {H : AH} {r : Value × AH}
 (h : NR P G (aF P G) fn.ntmps fn.results.toList (bQ fn) args H = some r) : aF P G f args H = some r := by
 cases hc : fn.body with
 | none => rw [hc] at hb; cases hb
 | some c =>
  rw [U0] at h;unfold bQ at h hd;rw [hc] at h hd;exact af4 hf hc (by simpa using hn) hd h
def Code.sub : Code → List Nat → Code
 | c, [] => c
 | .seq x _, 0 :: p => Code.sub x p
 | .seq _ y, 1 :: p => Code.sub y p
 | .cond _ x _, 2 :: p => Code.sub x p
 | .cond _ _ y, 3 :: p => Code.sub y p
 | .block _ x, 4 :: p => Code.sub x p
 | .loop x, 5 :: p => Code.sub x p
 | _, _ => .skip
def yv : Value → Option Bool
 | .bool b => some b
 | _ => none
def aS {R : Type} (cs : List Value) (H : AH) (k : Value → AH → Option R) : Option R := k (.pointer (some ⟨H.size, 0, none⟩)) (H.push (.cells false cs))
def agQ {R : Type} (len e : Nat) (cs : List Value) (H : AH) (k : Value → AH → Option R) : Option R := k (.slice (some ⟨H.size, 0, none⟩) len e) (H.push (.cells false cs))
def DT {R : Type} (H : AH) (k : Value → AH → Option R) : Option R := k (.map (some H.size)) (H.push (.map [] 0))
def gI {R : Type} (x : Value) (k : Value → Option R) : Option R :=
 match x with
 | .slice _ n _ => k (.int .i64 n)
 | _ => none
def abD (x : Value) : Option Value :=
 match x with
 | .slice _ _ _ => pR x
 | _ => none
def au {R : Type} (c : Value) (x y : Option R) : Option R :=
 match c with
 | .bool true => x
 | .bool false => y
 | _ => none
def xu {α : Type} (y : Option Bool) (want : Bool) (a b : Option α) : Option α :=
 match y == some want with
 | true => a
 | false => b
theorem Yd (a b : Value) : aM (.bool true) a b = some a := rfl
theorem Yc (a b : Value) : aM (.bool false) a b = some b := rfl
abbrev vi (n : Int) : Value := .int .i64 n
abbrev vw (n : Int) : Value := .int .u64 n
abbrev vu (n : Nat) : Value := .int .u64 (n : Int)
abbrev vb (b : Bool) : Value := .bool b
inductive Stp where
 | n
 | f (k : Nat)
 | i (e : Nat) (v : Value)
 | a (len e : Nat) (v : Value)
def ad {R : Type} : List Stp → Value → (Value → Option R) → Option R
 | [], a, k => k a
 | .n :: p, a, k => (tG a).bind fun a => ad p a k
 | .f o :: p, a, k => (DW o a).bind fun a => ad p a k
 | .i e v :: p, a, k => (oh e a v).bind fun a => ad p a k
 | .a len e v :: p, a, k => (iV len e a v).bind fun a => ad p a k
def ld {R : Type} (p : List Stp) (x : Value) (H : AH) (k : Value → Option R) : Option R := ad p x fun a => (aq a H).bind k
def ldN {R : Type} (n : Nat) (p : List Stp) (x : Value) (H : AH) (k : Value → Option R) : Option R := ad p x fun a => (ay n a H).bind k
def st {R : Type} (n : Nat) (p : List Stp) (x v : Value) (H : AH) (k : AH → Option R) : Option R := ad p x fun a => (cB n a v H).bind k
def gB (c : Value) (want : Bool) (e : Option Value) : Option Value := xu (yv c) want (e.bind some) (some undef)
def gV (c : Value) (want : Bool) (e : Value) : Option Value := xu (yv c) want (some e) (some undef)
def gE (c : Value) (want : Bool) (H : AH) (e : Option (Value × AH)) : Option (Value × AH) := xu (yv c) want e (some (undef, H))
def G3 {R : Type} (c : Value) (want : Bool) : List Stp → Value → (Value → Option R) → Option R
 | [], a, k => k a
 | .n :: p, a, k => (gB c want (tG a)).bind fun a => G3 c want p a k
 | .f o :: p, a, k => (gB c want (DW o a)).bind fun a => G3 c want p a k
 | .i e v :: p, a, k => (gB c want (oh e a v)).bind fun a => G3 c want p a k
 | .a len e v :: p, a, k => (gB c want (iV len e a v)).bind fun a => G3 c want p a k
def fI {R : Type} (c : Value) (want : Bool) (p : List Stp) (x : Value) (H : AH) (k : Value → Option R) : Option R := G3 c want p x fun a => (gB c want (aq a H)).bind k
def sg {R : Type} (c : Value) (want : Bool) (n : Nat) (p : List Stp) (x : Value) (H : AH) (k : Value → Option R) : Option R := G3 c want p x fun a => (gB c want (ay n a H)).bind k
def gJ {R : Type} (ps : List (Nat × Nat)) (zero : List Value) (xs : List (Nat × Value)) (k : Value → Option R) : Option R := (dj (fun i => ps[i]?) zero xs).bind fun cs => k (.agg cs.toArray)
def abM (e : Nat) (i : Nat) : Option (Nat × Nat) := some (i * e, e)
def AB {R : Type} (len e : Nat) (zero : List Value) (xs : List (Nat × Value)) (H : AH) (k : Value → AH → Option R) : Option R := (dj (abM e) (List.replicate len zero).flatten xs).bind fun cs => agQ len e cs H k
def iP (D : Nat) (A A' : List Value) : Prop := A.length = A'.length ∧ ∀ t, D.testBit t = false → A[t]? = A'[t]?
def jE (D : Nat) : Nat → List Value → List Value
 | _, [] => []
 | i, v :: vs => (match D.testBit i with | true => undef | false => v) :: jE D (i + 1) vs
def clear (D : Nat) (A : List Value) : List Value := jE D 0 A
theorem wK (D : Nat) : ∀ (A : List Value) (i : Nat), (jE D i A).length = A.length := by
 intro A
 induction A with
 | nil => intro i; rfl
 | cons v vs ih => intro i; simp [jE, ih]
theorem DI (D : Nat) : ∀ (A : List Value) (i t : Nat), D.testBit (i + t) = false → (jE D i A)[t]? = A[t]? := by
 intro A
 induction A with
 | nil => intro i t _; rfl
 | cons v vs ih =>
  intro i t h
  cases t with
  | zero => simp only [Nat.add_zero] at h; simp [jE, h]
  | succ t => simp only [jE, List.getElem?_cons_succ]; exact ih (i + 1) t (by rw [show i + 1 + t = i + (t + 1) from by omega]; exact h)
theorem iR (D : Nat) (A : List Value) : iP D A (clear D A) := ⟨(wK D A 0).symm, fun t h => (DI D A 0 t (by simpa using h)).symm⟩
def av {R : Type} (D : Nat) (k : List Value → AH → Option R) : Prop := ∀ A A' H, iP D A A' → k A H = k A' H
def opr (D : Nat) : Operand → Bool
 | .tmp t => !D.testBit t
 | _ => true
def Nv (D : Nat) : Option Tmp → Nat
 | some d => match D.testBit d with | true => D ^^^ 2 ^ d | false => D
 | none => D
theorem acB {D : Nat} {d : Option Tmp} {t : Nat} (h : D.testBit t = false) : (Nv D d).testBit t = false := by
 unfold Nv
 split
 ·split
  ·rename_i hd
   rw [Nat.testBit_xor, h, Nat.testBit_two_pow];simp;intro e;subst e; rw [h] at hd; cases hd
  ·exact h
 ·exact h
theorem acC {D : Nat} {d : Option Tmp} {t : Nat} (h : (Nv D d).testBit t = false) (hd : d ≠ some t) : D.testBit t = false := by
 unfold Nv at h
 split at h
 ·rename_i d
  split at h
  ·rename_i hb
   rw [Nat.testBit_xor, Nat.testBit_two_pow] at h;have : ¬ d = t := fun e => hd (by rw [e])
   simpa [this] using h
  ·exact h
 ·exact h
def tF (D : Nat) (ops : Array Oper) (o : Oper) : Bool :=
 o.op.operands.toList.all (opr D) && match o.guard with
 | none => true
 | some g => match (ops[g.1]?).bind (·.dst) with
  | some t => !D.testBit t
  | none => true
def og (ops : Array Oper) : List Oper → Nat → Option Nat
 | [], D => some D
 | o :: rest, D => match tF D ops o with
  | true => og ops rest (Nv D o.dst)
  | false => none
def r6 : Code → Nat → Option Nat
 | .skip, D => some D
 | .label _, D => some D
 | .region _ ops _, D => og ops ops.toList D
 | .seq x y, D => match r6 x D with
  | some D1 => match r6 y D1 with
   | some D2 => some D2
   | none => none
  | none => none
 | .cond c x y, D => match opr D c with
  | true => match r6 x D, r6 y D with
   | some D1, some D2 => some (D1 ||| D2)
   | _, _ => none
  | false => none
 | .block _ x, D => match r6 x D with
  | some _ => some D
  | none => none
 | .loop x, D => match r6 x D with
  | some _ => some D
  | none => none
 | .exit _, _ => some 0
 | .ret, _ => some 0
 | _, _ => none
section
variable {P : Program} {G : List Nat} {call : bE} {R : Type}
theorem iP.mono {D D' : Nat} {A A' : List Value} (h : iP D A A') (hm : ∀ t, D'.testBit t = false → D.testBit t = false) : iP D' A A' := ⟨h.1, fun t ht => h.2 t (hm t ht)⟩
theorem iP.ev {D : Nat} {A A' : List Value} (h : iP D A A') {x : Operand} (hx : opr D x = true) : fM A x = fM A' x := by
 cases x with
 | tmp t => simp only [opr, Bool.not_eq_true'] at hx; simp only [fM]; rw [h.2 t hx]
 | _ => rfl
theorem iP.put {D : Nat} {A A' : List Value} (h : iP D A A') (d : Option Tmp) (v : Value) : iP (Nv D d) (lc A d v) (lc A' d v) := by
 refine ⟨by rw [mJ, mJ, h.1], fun t ht => ?_⟩
 by_cases hd : d = some t
 ·subst hd; rw [Ac, Ac, h.1]
 ·rw [uq hd, uq hd]; exact h.2 t (acC ht hd)
theorem XW {ops : Array Oper} : ∀ {l : List Oper} {D D' : Nat}, og ops l D = some D' → ∀ t, D.testBit t = false → D'.testBit t = false := by
 intro l
 induction l with
 | nil => intro D D' h t ht; simp only [og] at h; cases h; exact ht
 | cons o l ih =>
  intro D D' h t ht;simp only [og] at h
  split at h
  ·exact ih h t (acB ht)
  ·cases h
theorem Hm : ∀ {c : Code} {D D' : Nat}, r6 c D = some D' → ∀ t, D.testBit t = false → D'.testBit t = false := by
 intro c
 induction c with
 | skip => intro D D' h t ht; simp only [r6] at h; cases h; exact ht
 | label l => intro D D' h t ht; simp only [r6] at h; cases h; exact ht
 | region id ops draw => intro D D' h; simp only [r6] at h; exact XW h
 | seq x y ihx ihy =>
  intro D D' h t ht;simp only [r6] at h
  split at h
  ·rename_i D1 h1
   split at h
   ·rename_i D2 h2; cases h; exact ihy h2 t (ihx h1 t ht)
   ·cases h
  ·cases h
 | cond c x y ihx ihy =>
  intro D D' h t ht;simp only [r6] at h
  split at h
  ·split at h
   ·rename_i D1 D2 h1 h2; cases h
    rw [Nat.testBit_or, ihx h1 t ht, ihy h2 t ht]; rfl
   ·cases h
  ·cases h
 | block id x ih => intro D D' h t ht; simp only [r6] at h; split at h <;> cases h; exact ht
 | loop x ih => intro D D' h t ht; simp only [r6] at h; split at h <;> cases h; exact ht
 | exit id => intro D D' h t ht; simp only [r6] at h; cases h; simp
 | ret => intro D D' h t ht; simp only [r6] at h; cases h; simp
 | rangeFunc => intro D D' h; simp [r6] at h
 | scope => intro D D' h; simp [r6] at h
 | goto => intro D D' h; simp [r6] at h
 | refuse => intro D D' h; simp [r6] at h
inductive Both (D : Nat) : Option (List Value × AH) → Option (List Value × AH) → Prop
 | no : Both D none none
 | yes {A A' : List Value} (H : AH) (h : iP D A A') : Both D (some (A, H)) (some (A', H))
theorem TZ {ops : Array Oper} {o : Oper} {D : Nat} (ho : tF D ops o = true) {A A' : List Value} (h : iP D A A') (H : AH) : Both (Nv D o.dst) (gl P G call ops o A H) (gl P G call ops o A' H) := by
 unfold tF at ho;simp only [Bool.and_eq_true] at ho;have hev : ∀ x ∈ o.op.operands.toList, fM A x = fM A' x := fun x hx => h.ev (List.all_eq_true.1 ho.1 x hx)
 have hw : Region.wanted o (dH ops A) = Region.wanted o (dH ops A') := by
  unfold Region.wanted
  cases hg : o.guard with
  | none => rfl
  | some g =>
   obtain ⟨g, want⟩ := g;rw [hg] at ho
   have hy : dH ops A g = dH ops A' g := by
    unfold dH
    cases hd : (ops[g]?).bind (·.dst) with
    | none => rfl
    | some t =>
     have h2 := ho.2;simp only [hd, Bool.not_eq_true'] at h2;simp only [bG];rw [h.2 t h2]
   simp only [hy]
 unfold gl;rw [hw, nM hev H]
 split
 ·split
  ·cases eL P call (fM A') o H with
   | none => exact .no
   | some r => exact .yes r.2 (h.put o.dst r.1)
  ·exact .yes H (h.put o.dst undef)
 ·exact .no
theorem vC {ops : Array Oper} : ∀ {l : List Oper} {D D' : Nat}, og ops l D = some D' → ∀ {A A' : List Value}, iP D A A' → ∀ H, Both D' (de P G call ops l A H) (de P G call ops l A' H) := by
 intro l
 induction l with
 | nil => intro D D' h A A' hA H; simp only [og] at h; cases h; exact .yes H hA
 | cons o l ih =>
  intro D D' h A A' hA H;simp only [og] at h
  split at h
  ·rename_i ho
   simp only [de];have := TZ (P := P) (G := G) (call := call) ho hA H
   generalize gl P G call ops o A H = x at this
   generalize gl P G call ops o A' H = y at this
   cases this with
   | no => exact .no
   | yes H1 hA1 => exact ih h hA1 H1
  ·cases h
theorem Mm {ops : Array Oper} : ∀ {l : List Oper} {D D' : Nat}, og ops l D = some D' → ∀ i, ∃ Di, og ops (l.take i) D = some Di ∧ ∀ o, l[i]? = some o → tF Di ops o = true := by
 intro l
 induction l with
 | nil => intro D D' h i; exact ⟨D, by cases i <;> rfl, fun o ho => by simp at ho⟩
 | cons o l ih =>
  intro D D' h i;simp only [og] at h
  split at h
  ·rename_i ho
   cases i with
   | zero => exact ⟨D, rfl, fun o' ho' => by simp at ho'; subst ho'; exact ho⟩
   | succ i =>
    obtain ⟨Di, h1, h2⟩ := ih h i;refine ⟨Di, ?_, fun o' ho' => h2 o' (by simpa using ho')⟩;simp only [List.take_succ_cons, og, ho];exact h1
  ·cases h
theorem Q9 {ops : Array Oper} {D D' : Nat} (h : og ops ops.toList D = some D') {A A' : List Value} (hA : iP D A A') (H : AH) : Both D' (mI P G call ops A H) (mI P G call ops A' H) := by
 unfold mI
 split
 ·exact .no
 ·split
  ·exact vC h hA H
  ·rename_i p ps hp
   have hb := vC (P := P) (G := G) (call := call) h hA H
   have key : de P G call ops ops.toList A H ≠ none → ((∀ q ∈ p :: ps, jG P (jB P G call ops A H) ops q) ↔ ∀ q ∈ p :: ps, jG P (jB P G call ops A' H) ops q) := by
    intro hne
    have hst : ∀ i, ∃ Di, iP Di (jB P G call ops A H i).1 (jB P G call ops A' H i).1 ∧ (jB P G call ops A H i).2 = (jB P G call ops A' H i).2 ∧ ∀ o, ops[i]? = some o → tF Di ops o = true := by
     intro i;obtain ⟨Di, h1, h2⟩ := Mm h i;have hbi := vC (P := P) (G := G) (call := call) h1 hA H
     cases hx : de P G call ops ops.toList A H with
     | none => exact absurd hx hne
     | some r =>
      have h3 := wx hx i;rw [h3] at hbi;unfold jB at hbi ⊢;rw [h3] at hbi ⊢
      generalize de P G call ops (ops.toList.take i) A' H = y at hbi
      simp only [Option.getD_some] at hbi ⊢
      generalize hz : jB P G call ops A H i = z at hbi
      unfold jB at hz;rw [h3] at hz;simp only [Option.getD_some] at hz
      cases hbi with
      | yes H1 hA1 =>
       exact ⟨Di, hA1, rfl, fun o ho => h2 o (by simpa using ho)⟩
    have one : ∀ q, jG P (jB P G call ops A H) ops q ↔ jG P (jB P G call ops A' H) ops q := by
     intro q;unfold jG;obtain ⟨D1, a1, e1, o1⟩ := hst q.1;obtain ⟨D2, a2, e2, o2⟩ := hst (if q.2 < q.1 then q.2 else q.2 + 1)
     constructor
     ·intro hl o ho
      have hev : ∀ x ∈ o.op.operands.toList, fM (jB P G call ops A H q.1).1 x = fM (jB P G call ops A' H q.1).1 x := fun x hx => a1.ev (by
       have := o1 o ho;unfold tF at this;simp only [Bool.and_eq_true] at this
       exact List.all_eq_true.1 this.1 x hx)
      have := hl o ho;rw [rz hev, rz hev, e1, e2] at this;exact this
     ·intro hl o ho
      have hev : ∀ x ∈ o.op.operands.toList, fM (jB P G call ops A H q.1).1 x = fM (jB P G call ops A' H q.1).1 x := fun x hx => a1.ev (by
       have := o1 o ho;unfold tF at this;simp only [Bool.and_eq_true] at this
       exact List.all_eq_true.1 this.1 x hx)
      rw [rz hev, rz hev, e1, e2];exact hl o ho
    exact ⟨fun hl q hq => (one q).1 (hl q hq), fun hl q hq => (one q).2 (hl q hq)⟩
   have hn : de P G call ops ops.toList A H = none → de P G call ops ops.toList A' H = none := by
    intro e; rw [e] at hb; generalize de P G call ops ops.toList A' H = y at hb; cases hb; rfl
   by_cases hne : de P G call ops ops.toList A H = none
   ·rw [hne, hn hne]
    unfold IQ
    have : ∀ (c : Prop) [Decidable c], (if c then (none : Option (List Value × AH)) else none) = none := fun c _ => by split <;> rfl
    rw [this, this]; exact .no
   ·unfold IQ
    by_cases hc : ∀ q ∈ p :: ps, jG P (jB P G call ops A H) ops q
    ·rw [if_pos hc, if_pos ((key hne).1 hc)]; exact hb
    ·rw [if_neg hc, if_neg (fun h => hc ((key hne).2 h))]; exact .no
inductive BothR (D D' : Nat) : Option AR → Option AR → Prop
 | no : BothR D D' none none
 | normal {A A' : List Value} (H : AH) (h : iP D' A A') : BothR D D' (some (.normal, A, H)) (some (.normal, A', H))
 | exit (i : Nat) {A A' : List Value} (H : AH) (h : iP D A A') : BothR D D' (some (.exit i, A, H)) (some (.exit i, A', H))
 | ret {A A' : List Value} (H : AH) (h : iP D A A') : BothR D D' (some (.ret, A, H)) (some (.ret, A', H))
theorem Eo : ∀ {c : Code} {D D' : Nat}, r6 c D = some D' → ∀ {A A' : List Value}, iP D A A' → ∀ H, BothR D D' (aQ P G call c A H) (aQ P G call c A' H) := by
 intro c
 induction c with
 | skip => intro D D' h A A' hA H; simp only [r6] at h; cases h; exact .normal H hA
 | label l => intro D D' h A A' hA H; simp only [r6] at h; cases h; exact .normal H hA
 | exit id => intro D D' h A A' hA H; exact .exit id H hA
 | ret => intro D D' h A A' hA H; exact .ret H hA
 | region id ops draw =>
  intro D D' h A A' hA H;simp only [r6] at h;simp only [aQ]
  have hb : Both D' (f8 P G call ops draw A H) (f8 P G call ops draw A' H) := by
   cases draw with
   | true => exact Q9 h hA H
   | false => exact vC h hA H
  generalize f8 P G call ops draw A H = x at hb
  generalize f8 P G call ops draw A' H = y at hb
  cases hb with
  | no => exact .no
  | yes H1 hA1 => exact .normal H1 hA1
 | seq x y ihx ihy =>
  intro D D' h A A' hA H;simp only [r6] at h
  split at h
  ·rename_i D1 h1
   split at h
   ·rename_i D2 h2
    cases h;simp only [aQ];have hb := ihx h1 hA H
    generalize aQ P G call x A H = u at hb
    generalize aQ P G call x A' H = v at hb
    cases hb with
    | no => exact .no
    | normal H1 hA1 =>
     have hb2 := ihy h2 hA1 H1;simp only [bG]
     rename_i A1 A1'
     generalize aQ P G call y A1 H1 = u at hb2
     generalize aQ P G call y A1' H1 = v at hb2
     cases hb2 with
     | no => exact .no
     | normal H2 hA2 => exact .normal H2 hA2
     | exit i H2 hA2 => exact .exit i H2 (hA2.mono (fun t ht => Hm h1 t ht))
     | ret H2 hA2 => exact .ret H2 (hA2.mono (fun t ht => Hm h1 t ht))
    | exit i H1 hA1 => exact .exit i H1 hA1
    | ret H1 hA1 => exact .ret H1 hA1
   ·cases h
  ·cases h
 | cond c x y ihx ihy =>
  intro D D' h A A' hA H;simp only [r6] at h
  split at h
  ·rename_i hc
   split at h
   ·rename_i D1 D2 h1 h2
    cases h;simp only [aQ];rw [hA.ev hc]
    have m1 : ∀ t, (D1 ||| D2).testBit t = false → D1.testBit t = false := fun t ht => by rw [Nat.testBit_or, Bool.or_eq_false_iff] at ht; exact ht.1
    have m2 : ∀ t, (D1 ||| D2).testBit t = false → D2.testBit t = false := fun t ht => by rw [Nat.testBit_or, Bool.or_eq_false_iff] at ht; exact ht.2
    generalize fM A' c = v
    cases v with
    | bool b =>
     cases b with
     | true =>
      have hb := ihx h1 hA H;simp only
      generalize aQ P G call x A H = u at hb
      generalize aQ P G call x A' H = v at hb
      cases hb with
      | no => exact .no
      | normal H1 hA1 => exact .normal H1 (hA1.mono m1)
      | exit i H1 hA1 => exact .exit i H1 hA1
      | ret H1 hA1 => exact .ret H1 hA1
     | false =>
      have hb := ihy h2 hA H;simp only
      generalize aQ P G call y A H = u at hb
      generalize aQ P G call y A' H = v at hb
      cases hb with
      | no => exact .no
      | normal H1 hA1 => exact .normal H1 (hA1.mono m2)
      | exit i H1 hA1 => exact .exit i H1 hA1
      | ret H1 hA1 => exact .ret H1 hA1
    | _ => exact .no
   ·cases h
  ·cases h
 | block id x ih =>
  intro D D' h A A' hA H;simp only [r6] at h
  split at h <;> cases h
  rename_i D1 h1
  simp only [aQ];have hb := ih h1 hA H
  generalize aQ P G call x A H = u at hb
  generalize aQ P G call x A' H = v at hb
  cases hb with
  | no => exact .no
  | normal H1 hA1 => exact .normal H1 (hA1.mono (fun t ht => Hm h1 t ht))
  | exit i H1 hA1 =>
   simp only [e6]
   split
   ·exact .normal H1 hA1
   ·exact .exit i H1 hA1
  | ret H1 hA1 => exact .ret H1 hA1
 | loop x ih =>
  intro D D' h A A' hA H;simp only [r6] at h
  split at h <;> cases h
  rename_i D1 h1
  simp only [aQ]
  have it : ∀ n {A A' : List Value} (H : AH), iP D A A' → BothR D D (fi (aQ P G call x) n A H) (fi (aQ P G call x) n A' H) := by
   intro n
   induction n with
   | zero => intro A A' H _; exact .no
   | succ n ihn =>
    intro A A' H hA;simp only [fi];have hb := ih h1 hA H
    generalize aQ P G call x A H = u at hb
    generalize aQ P G call x A' H = v at hb
    cases hb with
    | no => exact .no
    | normal H1 hA1 => exact ihn H1 (hA1.mono (fun t ht => Hm h1 t ht))
    | exit i H1 hA1 => exact .exit i H1 hA1
    | ret H1 hA1 => exact .ret H1 hA1
  cases hl : pe (aQ P G call x) A H with
  | some r =>
   obtain ⟨n, hn⟩ := dd.1 hl;have hb := it n H hA;rw [hn] at hb
   cases hm : fi (aQ P G call x) n A' H with
   | none => rw [hm] at hb; cases hb
   | some r' =>
    rw [dd.2 ⟨n, hm⟩];rw [hm] at hb;exact hb
  | none =>
   cases hl' : pe (aQ P G call x) A' H with
   | none => exact .no
   | some r' =>
    obtain ⟨n, hn⟩ := dd.1 hl';have hb := it n H hA;rw [hn] at hb
    cases hm : fi (aQ P G call x) n A H with
    | none => rw [hm] at hb; cases hb
    | some r => rw [dd.2 ⟨n, hm⟩] at hl; cases hl
 | rangeFunc => intro D D' h; simp [r6] at h
 | scope => intro D D' h; simp [r6] at h
 | goto => intro D D' h; simp [r6] at h
 | refuse => intro D D' h; simp [r6] at h
def D8 (D D' : Nat) : Bool := D ||| D' == D'
theorem Qw {D D' : Nat} (h : D8 D D' = true) : ∀ t, D'.testBit t = false → D.testBit t = false := by
 intro t ht;unfold D8 at h
 have e : D ||| D' = D' := by simpa using h
 rw [← e, Nat.testBit_or, Bool.or_eq_false_iff] at ht;exact ht.1
theorem av.le {D D' : Nat} {k : List Value → AH → Option R} (h : av D' k) (hs : D8 D D' = true) : av D k := fun A A' H hA => h A A' H (hA.mono (Qw hs))
def xt (c : Code) (D D' : Nat) : Bool := match r6 c D with
 | some D1 => D8 D1 D'
 | none => false
theorem TL {c : Code} {D D' : Nat} {kn : List Value → AH → Option R} {kx : Nat → List Value → AH → Option R} {kr : List Value → AH → Option R} (h : xt c D D' = true) (hn : av D' kn) (hx : ∀ i, av D (kx i)) (hr : av D kr) :
 av D (fun A H => bi P G call c A H kn kx kr) := by
 intro A A' H hA;unfold xt at h
 split at h
 ·rename_i D1 h1
  simp only;rw [uu, uu];have hb := Eo (P := P) (G := G) (call := call) h1 hA H
  generalize aQ P G call c A H = u at hb
  generalize aQ P G call c A' H = v at hb
  cases hb with
  | no => rfl
  | normal H1 hA1 => exact hn _ _ H1 (hA1.mono (Qw h))
  | exit i H1 hA1 => exact hx i _ _ H1 hA1
  | ret H1 hA1 => exact hr _ _ H1 hA1
 ·cases h
theorem TM {c : Code} {D : Nat} {kx : Nat → List Value → AH → Option R} {kr : List Value → AH → Option R} (h : xt c D D = true) (hx : ∀ i, av D (kx i)) (hr : av D kr) :
 av D (fun A H => i1 P G call c A H kx kr) := by
 intro A A' H hA;unfold xt at h
 split at h
 ·rename_i D1 h1
  have hb := Eo (P := P) (G := G) (call := call) (c := .loop c) (D := D) (D' := D) (by simp only [r6, h1]) hA H;simp only [aQ] at hb;simp only [i1]
  generalize pe (aQ P G call c) A H = u at hb
  generalize pe (aQ P G call c) A' H = v at hb
  cases hb with
  | no => rfl
  | normal H1 hA1 => rfl
  | exit i H1 hA1 => exact hx i _ _ H1 hA1
  | ret H1 hA1 => exact hr _ _ H1 hA1
 ·cases h
def PT (D : Nat) (rs : List ResultVar) : Bool := rs.all fun r => match r with
 | .tmp t => !D.testBit t
 | .cell a _ => !D.testBit a
theorem TN {D : Nat} : ∀ {rs : List ResultVar} (_ : PT D rs = true) (k : List Value → AH → Option R), av D (fun A H => sH P A H rs fun vs => k vs H) := by
 intro rs
 induction rs with
 | nil => intro _ k A A' H hA; rfl
 | cons r rs ih =>
  intro h k A A' H hA;unfold PT at h;simp only [List.all_cons, Bool.and_eq_true] at h
  cases r with
  | tmp t =>
   simp only [Bool.not_eq_true'] at h;simp only [sH];rw [hA.2 t h.1];exact ih h.2 (fun vs H => k ((A'[t]?.getD undef) :: vs) H) A A' H hA
  | cell a t =>
   simp only [Bool.not_eq_true'] at h;simp only [sH];rw [hA.2 a h.1, Ki, Ki]
   congr 1
   funext g
   cases g <;> (simp only; congr 1; funext v; exact ih h.2 (fun vs H => k (v :: vs) H) A A' H hA)
theorem YG {D : Nat} {rs : List ResultVar} (h : PT D rs = true) : av D (eO P rs) := TN h fun vs H => some (tup vs, H)
theorem TO {D : Nat} : av D (fun (_ : List Value) (_ : AH) => (none : Option R)) := fun _ _ _ _ => rfl
theorem M4 {D id : Nat} {kn : List Value → AH → Option R} {kx : Nat → List Value → AH → Option R} (hn : av D kn) (hx : ∀ i, av D (kx i)) : ∀ i, av D (fun A H => if i = id then kn A H else kx i A H) := by
 intro i A A' H hA;simp only
 split
 ·exact hn _ _ _ hA
 ·exact hx i _ _ _ hA
theorem C6 {D : Nat} {n : List Value → AH → Option R} (h : av D n) : av D (fun A H => n (clear D A) H) := by
 intro A A' H hA;simp only;rw [← h A (clear D A) H (iR D A), ← h A' (clear D A') H (iR D A')];exact h A A' H hA
variable {A : List Value} {H : AH} {kn : List Value → AH → Option R} {kx : Nat → List Value → AH → Option R} {kr : List Value → AH → Option R}
theorem ZX {c x y : Code} {e : Operand} (h : c = .cond e x y) : bi P G call c A H kn kx kr = au (fM A e) (bi P G call x A H kn kx kr) (bi P G call y A H kn kx kr) := by subst h; rfl
theorem IL {c x : Code} {id : Nat} (h : c = .block id x) {D : Nat} {n : Nat → List Value → AH → Option R} (hn : n = fun i A H => if i = id then kn A H else kx i A H) (hD : ∀ i, av D (n i)) :
 bi P G call c A H kn kx kr = bi P G call x A H kn (fun i A H => n i (clear D A) H) kr := by
 subst h
 have e : (fun i A H => n i (clear D A) H) = n := by
  funext i A H
  exact (hD i A (clear D A) H (iR D A)).symm
 rw [e, hn]; try rfl
theorem abE {c x : Code} (h : c = .loop x) : bi P G call c A H kn kx kr = i1 P G call x A H kx kr := by subst h; rfl
theorem Mf {x : Code} {D : Nat} {n : List Value → AH → Option R} (hn : n = fun A H => i1 P G call x A H kx kr) (hD : av D n) : i1 P G call x A H kx kr = n (clear D A) H := by
 have := hD A (clear D A) H (iR D A);rw [← this, hn]
theorem Me {x : Code} {D : Nat} {n : List Value → AH → Option R} (hn : n = fun A H => i1 P G call x A H kx kr) (hD : av D n) :
 i1 P G call x A H kx kr = bi P G call x A H (fun A H => n (clear D A) H) kx kr := by
 have e : (fun A H => n (clear D A) H) = n := by
  funext A H
  exact (hD A (clear D A) H (iR D A)).symm
 rw [e, hn]; exact U1 ..
def Code.pre : Nat → Code → Code
 | 0, .seq x _ => x
 | k + 1, .seq x y => .seq x (Code.pre k y)
 | _, c => c
def Code.post : Nat → Code → Code
 | 0, .seq _ y => y
 | k + 1, .seq _ y => Code.post k y
 | _, _ => .skip
theorem aeZ : ∀ (k : Nat) (c : Code) (A : List Value) (H : AH), bi P G call c A H kn kx kr = bi P G call (Code.pre k c) A H (fun A H => bi P G call (Code.post k c) A H kn kx kr) kx kr := by
 intro k
 induction k with
 | zero => intro c A H; cases c <;> rfl
 | succ k ih =>
  intro c A H
  cases c with
  | seq x y =>
   have e : (fun A H => bi P G call y A H kn kx kr) = fun A H => bi P G call (Code.pre k y) A H (fun A H => bi P G call (Code.post k y) A H kn kx kr) kx kr := by
    funext A H; exact ih y A H
   show bi P G call x A H (fun A H => bi P G call y A H kn kx kr) kx kr = _;rw [e]; rfl
  | _ => rfl
variable {l T : Option R}
theorem ae0 {c : Code} {k D : Nat} {n : List Value → AH → Option R} (h0 : l = bi P G call c A H kn kx kr) (hn : n = fun A H => bi P G call (Code.post k c) A H kn kx kr) (hD : av D n)
 (h1 : bi P G call (Code.pre k c) A H (fun A H => n (clear D A) H) kx kr = T) : l = T := by
 have e : (fun A H => n (clear D A) H) = n := by
  funext A H
  exact (hD A (clear D A) H (iR D A)).symm
 rw [e, hn] at h1;exact h0.trans ((aeZ k c A H).trans h1)
theorem Vb {v v' : Value} {x x' y y' : Option R} (h : v = v') (hx : x = x') (hy : y = y') : au v x y = au v' x' y' := by rw [h, hx, hy]
theorem ZY {c x y : Code} {e : Operand} (h0 : l = bi P G call c A H kn kx kr) (h : c = .cond e x y) (h1 : au (fM A e) (bi P G call x A H kn kx kr) (bi P G call y A H kn kx kr) = T) : l = T := h0.trans ((ZX h).trans h1)
theorem UY {c x : Code} {id D : Nat} {n : Nat → List Value → AH → Option R} (h0 : l = bi P G call c A H kn kx kr) (h : c = .block id x) (hn : n = fun i A H => if i = id then kn A H else kx i A H) (hD : ∀ i, av D (n i))
 (h1 : bi P G call x A H kn (fun i A H => n i (clear D A) H) kr = T) : l = T := h0.trans ((IL h hn hD).trans h1)
theorem abF {c x : Code} {D : Nat} {n : List Value → AH → Option R} (h0 : l = bi P G call c A H kn kx kr) (h : c = .loop x) (hn : n = fun A H => i1 P G call x A H kx kr) (hD : av D n) (h1 : n (clear D A) H = T) : l = T :=
 h0.trans ((abE h).trans ((Mf hn hD).trans h1))
theorem abG {x : Code} {D : Nat} {n : List Value → AH → Option R} (h0 : l = i1 P G call x A H kx kr) (hn : n = fun A H => i1 P G call x A H kx kr) (hD : av D n)
 (h1 : bi P G call x A H (fun A H => n (clear D A) H) kx kr = T) : l = T := h0.trans ((Me hn hD).trans h1)
end
abbrev OV := Option (Value × AH)
abbrev u : Value := undef
abbrev KK := List Value → AH → OV
abbrev KX := Nat → List Value → AH → OV
noncomputable abbrev CK (P : Program) (G : List Nat) (call : bE) (c : Code) (kn : KK) (kx : KX) (kr : KK) : KK := fun A H => bi P G call c A H kn kx kr
noncomputable abbrev CL (P : Program) (G : List Nat) (call : bE) (c : Code) (kx : KX) (kr : KK) : KK := fun A H => i1 P G call c A H kx kr
abbrev BX (id : Nat) (kn : KK) (kx : KX) : KX := fun i A H => if i = id then kn A H else kx i A H
abbrev gY (D : Nat) (n : KK) : KK := fun A H => n (clear D A) H
abbrev wG (D : Nat) (n : KX) : KX := fun i A H => n i (clear D A) H
def bP : KX := fun _ _ _ => none
def agE : Nat := 2 ^ 4096 - 1
def ls (l : List Value) (n : Nat) : List Value := l ++ List.replicate n u
section
variable {P : Program} {G : List Nat} {call : bE} {A : List Value} {H : AH} {kn : KK} {kx : KX} {kr : KK} {l T : OV}
theorem aE : ∀ i, av agE (bP i) := fun _ => TO
theorem rf {rs : List ResultVar} {D : Nat} (h : PT D rs = true := by kernel_rfl) : av D (eO P rs) := YG h
theorem rc {c : Code} {D Dn Dx Dr : Nat} (hn : av Dn kn) (hx : ∀ i, av Dx (kx i)) (hr : av Dr kr) (h : (xt c D Dn && (D8 D Dx && D8 D Dr)) = true := by kernel_rfl) : av D (CK P G call c kn kx kr) := by
 simp only [Bool.and_eq_true] at h;exact TL h.1 hn (fun i => (hx i).le h.2.1) (hr.le h.2.2)
theorem rl {c : Code} {D Dx Dr : Nat} (hx : ∀ i, av Dx (kx i)) (hr : av Dr kr) (h : (xt c D D && (D8 D Dx && D8 D Dr)) = true := by kernel_rfl) : av D (CL P G call c kx kr) := by
 simp only [Bool.and_eq_true] at h;exact TM h.1 (fun i => (hx i).le h.2.1) (hr.le h.2.2)
theorem rb {D id Dn Dx : Nat} (hn : av Dn kn) (hx : ∀ i, av Dx (kx i)) (h : (D8 D Dn && D8 D Dx) = true := by kernel_rfl) : ∀ i, av D (BX id kn kx i) := by
 simp only [Bool.and_eq_true] at h;exact M4 (hn.le h.1) (fun i => (hx i).le h.2)
theorem cd {D : Nat} {n : KK} (h : av D n) : av D (gY D n) := C6 h
theorem cx {D : Nat} {n : KX} (h : ∀ i, av D (n i)) : ∀ i, av D (wG D n i) := fun i => C6 (h i)
theorem pt {c : Code} {D : Nat} {n : KK} (h0 : l = bi P G call c A H kn kx kr) (k : Nat) (hD : av D n) (h1 : bi P G call (Code.pre k c) A H (gY D n) kx kr = T)
 (hn : n = fun A H => bi P G call (Code.post k c) A H kn kx kr := by kernel_rfl) : l = T := ae0 h0 hn hD h1
theorem ct {c : Code} (h0 : l = bi P G call c A H kn kx kr) (x y : Code) (e : Operand) {v : Value} {X Y : OV} (hx : bi P G call x A H kn kx kr = X) (hy : bi P G call y A H kn kx kr = Y)
 (h : c = .cond e x y := by kernel_rfl) (he : fM A e = v := by kernel_rfl) : l = au v X Y := ZY h0 h (Vb he hx hy)
theorem bt {c : Code} {D : Nat} {n : KX} (h0 : l = bi P G call c A H kn kx kr) (x : Code) (id : Nat) (hD : ∀ i, av D (n i)) (h1 : bi P G call x A H kn (wG D n) kr = T)
 (h : c = .block id x := by kernel_rfl) (hn : n = fun i A H => if i = id then kn A H else kx i A H := by kernel_rfl) : l = T := UY h0 h hn hD h1
theorem li {c : Code} {D : Nat} {n : KK} (h0 : l = bi P G call c A H kn kx kr) (x : Code) (hD : av D n) (h1 : n (clear D A) H = T) (h : c = .loop x := by kernel_rfl)
 (hn : n = fun A H => i1 P G call x A H kx kr := by kernel_rfl) : l = T := abF h0 h hn hD h1
theorem Jy {x : Code} {D : Nat} {n : KK} (h0 : l = i1 P G call x A H kx kr) (hD : av D n) (h1 : bi P G call x A H (gY D n) kx kr = T)
 (hn : n = fun A H => i1 P G call x A H kx kr := by kernel_rfl) : l = T := abG h0 hn hD h1
theorem ht' {id : Nat} (h0 : l = BX id kn kx id A H) (h1 : kn A H = T) : l = T := by rw [h0, ← h1]; simp [BX]
theorem fo {f : Nat} {fn : Func} (hf : P.funcs[f]? = some fn) {args : List Value} {t : OV} {r : Value × AH} (e : NR P G (aF P G) fn.ntmps fn.results.toList (bQ fn) args H = t) (h : t = some r)
 (hb : fn.body.isSome = true := by kernel_rfl) (hn : (fn.name == "runtime.NumGoroutine") = false := by kernel_rfl) (hd : kI (bQ fn) = none := by kernel_rfl) : aF P G f args H = some r := KN hf hb hn hd (e.trans h)
end
end Go.Proofs.YtflbeghglllknaaGreatDoor.Gst
namespace Go.Proofs.YtflbeghglllknaaGreatDoor.Gst
open Go Go.RowKit Go.ChangeShapes
set_option linter.unusedSimpArgs false
def fU (H H' : AH) : Prop := H.size ≤ H'.size ∧ ∀ b, b < H.size → H'.get b = H.get b
theorem fU.refl (H : AH) : fU H H := ⟨bJ _, fun _ _ => rfl⟩
theorem fU.trans {A B C : AH} (h : fU A B) (k : fU B C) : fU A C := ⟨d8 h.1 k.1, fun b hb => by rw [k.2 b (by have := h.1; omega), h.2 b hb]⟩
theorem fU.push (H : AH) (o : AObj) : fU H (H.push o) := ⟨by rw [AH.size_push]; omega, fun b hb => AH.get_push_old hb⟩
theorem fU.get {H H' : AH} (h : fU H H') {b : Nat} {o : AObj} (hb : H.get b = some o) : H'.get b = some o := by rw [h.2 b (AH.lt_of_get hb)]; exact hb
inductive Ty where
 | int (k : IntKind)
 | bool
 | slice (t : Ty)
 | unit
 | pair (a b : Ty)
def Ty.w : Ty → Nat
 | .int _ | .bool | .slice _ => 1
 | .unit => 0
 | .pair a b => a.w + b.w
abbrev Ty.I : Ty → Type
 | .int _ => Int
 | .bool => Bool
 | .slice t => List t.I
 | .unit => Unit
 | .pair a b => a.I × b.I
inductive kH {α : Type} (R : α → List Value → Prop) : List α → List Value → Prop
 | nil : kH R [] []
 | cons {x : α} {l : List α} {c cs : List Value} (h : R x c) (k : kH R l cs) : kH R (x :: l) (c ++ cs)
def Abs (H : AH) : (t : Ty) → t.I → List Value → Prop
 | .int k, n, cs => cs = [.int k n] ∧ (Lit.int k n).wf = true
 | .bool, b, cs => cs = [.bool b]
 | .unit, _, cs => cs = []
 | .pair a b, x, cs => ∃ c1 c2, cs = c1 ++ c2 ∧ Abs H a x.1 c1 ∧ Abs H b x.2 c2
 | .slice t, l, cs => (l = [] ∧ cs = [.slice none 0 0]) ∨ (l = [] ∧ ∃ b, cs = [.slice (some ⟨b, 0, none⟩) 0 0]) ∨
  ∃ b row, H.get b = some (.cells true row) ∧ cs = [.slice (some ⟨b, 0, none⟩) l.length t.w] ∧ kH (Abs H t) l row ∧ l.length ≤ maxLen
theorem kH.mono {α : Type} {R S : α → List Value → Prop} (h : ∀ x c, R x c → S x c) {l : List α} {cs : List Value} (k : kH R l cs) : kH S l cs := by
 induction k with
 | nil => exact .nil
 | cons h1 _ ih => exact .cons (h _ _ h1) ih
theorem Abs.keep {H H' : AH} (k : fU H H') : ∀ (t : Ty) (x : t.I) (cs : List Value), Abs H t x cs → Abs H' t x cs := by
 intro t
 induction t with
 | int k => intro x cs h; exact h
 | bool => intro x cs h; exact h
 | unit => intro x cs h; exact h
 | pair a b iha ihb =>
  intro x cs h;obtain ⟨c1, c2, e, h1, h2⟩ := h;exact ⟨c1, c2, e, iha _ _ h1, ihb _ _ h2⟩
 | slice t ih =>
  intro x cs h
  rcases h with h | h | ⟨b, row, h1, h2, h3, h4⟩
  ·exact .inl h
  ·exact .inr (.inl h)
  ·exact .inr (.inr ⟨b, row, k.get h1, h2, h3.mono ih, h4⟩)
theorem kH.length {α : Type} {R : α → List Value → Prop} {n : Nat} (h : ∀ x c, R x c → c.length = n) {l : List α} {cs : List Value} (k : kH R l cs) : cs.length = l.length * n := by
 induction k with
 | nil => simp
 | cons h1 _ ih => rw [vm, h _ _ h1, ih, List.length_cons, Nat.add_mul]; omega
theorem Abs.length {H : AH} : ∀ (t : Ty) (x : t.I) (cs : List Value), Abs H t x cs → cs.length = t.w := by
 intro t
 induction t with
 | int k => intro x cs h; rw [h.1]; rfl
 | bool => intro x cs h; have h : cs = _ := h; rw [h]; rfl
 | unit => intro x cs h; have h : cs = _ := h; rw [h]; rfl
 | pair a b iha ihb =>
  intro x cs h;obtain ⟨c1, c2, e, h1, h2⟩ := h;rw [e, vm, iha _ _ h1, ihb _ _ h2]; rfl
 | slice t ih =>
  intro x cs h
  rcases h with h | ⟨_, b, h⟩ | ⟨b, row, h1, h2, h3, h4⟩
  ·rw [h.2]; rfl
  ·rw [h]; rfl
  ·rw [h2]; rfl
def AU : (t : Ty) → t.I → Prop
 | .int _, _ => True
 | .bool, _ => True
 | .unit, _ => True
 | .pair a b, x => AU a x.1 ∧ AU b x.2
 | .slice t, l => l.length ≤ reachBytes ∧ ∀ x ∈ l, AU t x
def wOK {Hd : Type} (P : Program) (t : TypeId) (d : DataW Hd) : Prop := ∀ n ∈ DataW.weights P t d, n ≤ reachBytes
theorem rq {Hd : Type} {P : Program} {e : TypeId} {d : DataW Hd} {n : Nat} : ∀ {l : List (DataW Hd)}, d ∈ l → n ∈ DataW.weights P e d → n ∈ DataW.weightsAll P e l := by
 intro l
 induction l with
 | nil => intro h; cases h
 | cons x l ih =>
  intro h hn;rw [DataW.weightsAll, List.mem_append]
  rcases List.mem_cons.1 h with rfl | h
  ·exact .inl hn
  ·exact .inr (ih h hn)
theorem Aa {Hd : Type} {P : Program} {n : Nat} : ∀ {ts : List TypeId} {ds : List (DataW Hd)} {i : Nat} {t : TypeId} {d : DataW Hd}, ts[i]? = some t → ds[i]? = some d → n ∈ DataW.weights P t d → n ∈ DataW.weightsEach P ts ds := by
 intro ts
 induction ts with
 | nil => intro ds i t d h; simp at h
 | cons t0 ts ih =>
  intro ds i t d h1 h2 hn
  cases ds with
  | nil => simp at h2
  | cons d0 ds =>
   rw [DataW.weightsEach, List.mem_append]
   cases i with
   | zero =>
    simp at h1 h2;subst h1; subst h2;exact .inl hn
   | succ i => exact .inr (ih (by simpa using h1) (by simpa using h2) hn)
def pP (P : Program) : Ty → (TypeId → Bool) × (List Field → Nat → Bool)
 | .int k => (fun t => match P.underlying t with | some (.int k') => k' == k && P.cellsOf t == 1 | _ => false, fun _ _ => false)
 | .bool => (fun t => match P.underlying t with | some .bool => P.cellsOf t == 1 | _ => false, fun _ _ => false)
 | .slice ty => (fun t => match P.underlying t with | some (.slice e) => (pP P ty).1 e && P.cellsOf e == ty.w && decide (0 < ty.w ∧ 0 < P.bytesOf e) && P.cellsOf t == 1 | _ => false, fun _ _ => false)
 | .unit => (fun _ => false, fun fs _ => fs.isEmpty)
 | .pair a b =>
  let F : List Field → Nat → Bool := fun fs off => match fs with
   | f :: fs => f.offset == off && (pP P a).1 f.type && P.cellsOf f.type == a.w && (pP P b).2 fs (off + a.w)
   | [] => false
  (fun t => match P.underlying t with | some (.struct fs) => P.cellsOf t == a.w + b.w && F fs.toList 0 | _ => false, F)
section
variable {Hd : Type} {enc : TypeId × Value → Hd} {P : Program} {w : World} {held : Bool}
theorem Rel.pushRo {B : Nat} {w0 : World} {ρ : bK} {H : AH} (h : Rel P w0 B ρ H w) {row : List Value} {c d sz : Nat} (hc : c < w.heap.size) (hcB : c < B) (hor : pU P ρ d sz (.cells true row) w.heap[c]?) :
 Rel P w0 B (ρ.upd H.size (c, d, sz)) (H.push (.cells true row)) w := by
 have hnone : ρ H.size = none := by
  cases hn : ρ H.size with
  | none => rfl
  | some x => have := h.dom _ _ hn; omega
 have hle := bK.upd_le (x := (c, d, sz)) hnone
 have key : ∀ b1 o1, (H.push (.cells true row)).get b1 = some o1 → (b1 = H.size ∧ o1 = .cells true row) ∨ (b1 < H.size ∧ H.get b1 = some o1) := by
  intro b1 o1 h1;rw [AH.get_push] at h1
  by_cases hb1 : b1 = H.size
  ·rw [if_pos hb1] at h1; exact .inl ⟨hb1, (e7 h1).symm⟩
  ·rw [if_neg hb1] at h1; exact .inr ⟨AH.lt_of_get h1, h1⟩
 have old : ∀ {b1 c1 d1 sz1}, b1 < H.size → ρ.upd H.size (c, d, sz) b1 = some (c1, d1, sz1) → ρ b1 = some (c1, d1, sz1) := by
  intro b1 c1 d1 sz1 hb1 hx
  rwa [bK.upd_ne (by omega)] at hx
 have new : ∀ {c1 d1 sz1}, ρ.upd H.size (c, d, sz) H.size = some (c1, d1, sz1) → c1 = c ∧ d1 = d ∧ sz1 = sz := by
  intro c1 d1 sz1 hx;rw [bK.upd_same] at hx;cases hx;exact ⟨rfl, rfl, rfl⟩
 refine ⟨h.base, h.below, ?_, ?_, ?_, ?_, ?_, ?_⟩
 ·intro b1 x hx
  rw [AH.size_push]
  by_cases hb1 : b1 = H.size
  ·omega
  ·rw [bK.upd_ne hb1] at hx; have := h.dom b1 x hx; omega
 ·intro b1 c1 d1 sz1 hx
  by_cases hb1 : b1 = H.size
  ·subst hb1
   obtain ⟨rfl, _, _⟩ := new hx;exact hc
  ·rw [bK.upd_ne hb1] at hx; exact h.blk b1 c1 d1 sz1 hx
 ·intro b1 c1 d1 sz1 o1 hx h1
  rcases key b1 o1 h1 with ⟨rfl, rfl⟩ | ⟨hb1, h1⟩
  ·obtain ⟨rfl, rfl, rfl⟩ := new hx
   exact hor.mono hle
  ·exact (h.obj b1 c1 d1 sz1 o1 (old hb1 hx) h1).mono hle
 ·intro b1 c1 d1 sz1 o1 hx h1 hrw
  rcases key b1 o1 h1 with ⟨rfl, rfl⟩ | ⟨hb1, h1⟩
  ·cases hrw
  ·exact h.own b1 c1 d1 sz1 o1 (old hb1 hx) h1 hrw
 ·intro b1 c1 d1 sz1 cs1 hx h1
  rcases key b1 _ h1 with ⟨rfl, _⟩ | ⟨hb1, h1⟩
  ·obtain ⟨rfl, _, _⟩ := new hx
   exact hcB
  ·exact h.ro b1 c1 d1 sz1 cs1 (old hb1 hx) h1
 ·intro b1 b2 c1 d1 d2 sz1 sz2 o1 o2 hx1 hx2 h1 h2 hr1 hr2
  rcases key b1 o1 h1 with ⟨rfl, rfl⟩ | ⟨hb1, h1⟩
  ·cases hr1
  ·rcases key b2 o2 h2 with ⟨rfl, rfl⟩ | ⟨hb2, h2⟩
   ·cases hr2
   ·exact h.inj b1 b2 c1 d1 d2 sz1 sz2 o1 o2 (old hb1 hx1) (old hb2 hx2) h1 h2 hr1 hr2
theorem J0 {B : Nat} {w0 : World} {ρ : bK} {H : AH} (h : Rel P w0 B ρ H w) (x : Nat × Nat × Nat) : ∀ b y, ρ b = some y → ρ.upd H.size x b = some y :=
 bK.upd_le (by
  cases hn : ρ H.size with
  | none => rfl
  | some x => have := h.dom _ _ hn; omega)
def Got (P : Program) (w : World) (ρ : bK) (H : AH) (ty : Ty) (cs : List Value) (ρ' : bK) (H' : AH) : Prop :=
 ∃ x avs, Rel P w w.heap.size ρ' H' w ∧ (∀ b y, ρ b = some y → ρ' b = some y) ∧ fU H H' ∧ LRel P ρ' avs cs ∧ Abs H' ty x avs ∧ AU ty x
theorem ye {fuel : Nat} {t : TypeId} {cs : List Value} {x : DataW Hd × List MemPlace} (h : DataW.trod enc P w 0 (fun _ => true) held fuel t cs = some x) : ∃ n, fuel = n + 1 := by
 cases fuel with
 | zero => simp [DataW.trod] at h
 | succ n => exact ⟨n, rfl⟩
theorem Qp {ty : Ty} {e : TypeId} {n : Nat} (ih : ∀ (cs : List Value) (x : DataW Hd × List MemPlace) (ρ : bK) (H : AH), Rel P w w.heap.size ρ H w → DataW.trod enc P w 0 (fun _ => true) held n e cs = some x → wOK P e x.1 → ∃ ρ' H', Got P w ρ H ty cs ρ' H')
 (a : Addr) : ∀ (m i : Nat) (ρ : bK) (H : AH), Rel P w w.heap.size ρ H w → (∀ j, i ≤ j → j < i + m → ∃ y, (w.cells? 0 (a.add (j * ty.w)) ty.w).bind (DataW.trod enc P w 0 (fun _ => true) held n e) = some y ∧ wOK P e y.1) →
  ∃ ρ' H' l row cc, Rel P w w.heap.size ρ' H' w ∧ (∀ b y, ρ b = some y → ρ' b = some y) ∧ fU H H' ∧ l.length = m ∧ kH (Abs H' ty) l row ∧ LRel P ρ' row cc ∧ (∀ k, k < m * ty.w → w.cell? (a.add (i * ty.w + k)) = cc[k]?) ∧ cc.length = m * ty.w ∧ ∀ x ∈ l, AU ty x := by
 intro m
 induction m with
 | zero =>
  intro i ρ H hR _;exact ⟨ρ, H, [], [], [], hR, fun _ _ h => h, fU.refl H, rfl, .nil, LRel.nil, fun k hk => by omega, by simp, fun x hx => by cases hx⟩
 | succ m ihm =>
  intro i ρ H hR hel;obtain ⟨y, hy, hwy⟩ := hel i (bJ _) (by omega);obtain ⟨cs, hcs, hy⟩ := aG.1 hy;obtain ⟨ρ1, H1, x, avs, hR1, hle1, hk1, hl1, ha1, hs1⟩ := ih cs y ρ H hR hy hwy;obtain ⟨ρ2, H2, l, row, cc, hR2, hle2, hk2, hlen, hrow, hl2, hcell, hcl, hs2⟩ := ihm (i + 1) ρ1 H1 hR1 (fun j h1 h2 => hel j (by omega) (by omega));obtain ⟨_, hcsl, hcsg⟩ := World.cells?_some hcs;refine ⟨ρ2, H2, x :: l, avs ++ row, cs ++ cc, hR2, fun b y h => hle2 b y (hle1 b y h), hk1.trans hk2, by simp [hlen], .cons (Abs.keep hk2 ty x avs ha1) hrow, (hl1.mono hle2).append hl2, ?_, ?_, ?_⟩
  ·intro k hk
   have hmul : (m + 1) * ty.w = ty.w + m * ty.w := by rw [Nat.add_mul]; omega
   have hmul2 : (i + 1) * ty.w = i * ty.w + ty.w := by rw [Nat.add_mul]; omega
   by_cases hkw : k < ty.w
   ·rw [List.getElem?_append_left (by omega), ← hcsg k hkw]
    congr 1
    unfold Addr.add
    repeat' split
    all_goals first | rfl | omega | (simp; done) | (simp; omega)
   ·rw [List.getElem?_append_right (by omega), hcsl, ← hcell (k - ty.w) (by omega), hmul2]
    congr 2
    omega
  ·rw [vm, hcsl, hcl, Nat.add_mul]; omega
  ·intro z hz
   rcases List.mem_cons.1 hz with rfl | hz
   ·exact hs1
   ·exact hs2 z hz
theorem Y7 : ∀ (ty : Ty),
 (∀ (t : TypeId), (pP P ty).1 t = true → ∀ (fuel : Nat) (cs : List Value) (x : DataW Hd × List MemPlace) (ρ : bK) (H : AH), Rel P w w.heap.size ρ H w → DataW.trod enc P w 0 (fun _ => true) held fuel t cs = some x → wOK P t x.1 → ∃ ρ' H', Got P w ρ H ty cs ρ' H') ∧
 (∀ (fs : List Field) (off : Nat), (pP P ty).2 fs off = true → ∀ (fuel : Nat) (cs : List Value) (ρ : bK) (H : AH), Rel P w w.heap.size ρ H w → cs.length = off + ty.w →
  (∀ f ∈ fs, ∃ y, DataW.trod enc P w 0 (fun _ => true) held fuel f.type ((cs.drop f.offset).take (P.cellsOf f.type)) = some y ∧ wOK P f.type y.1) → ∃ ρ' H', Got P w ρ H ty (cs.drop off) ρ' H') := by
 intro ty
 induction ty with
 | int k =>
  refine ⟨?_, fun fs off h => by cases h⟩;intro t ht fuel cs x ρ H hR h hwx;obtain ⟨n, rfl⟩ := ye h;simp only [pP] at ht
  split at ht
  ·rename_i k' hu
   simp only [Bool.and_eq_true, beq_iff_eq] at ht;obtain ⟨rfl, _⟩ := ht;obtain ⟨n, rfl, _, hw⟩ := DataW.trod_int hu h;exact ⟨ρ, H, n, [.int k' n], hR, fun _ _ h => h, fU.refl H, LRel.of_all rfl, ⟨rfl, hw⟩, trivial⟩
  ·cases ht
 | bool =>
  refine ⟨?_, fun fs off h => by cases h⟩;intro t ht fuel cs x ρ H hR h hwx;obtain ⟨n, rfl⟩ := ye h;simp only [pP] at ht
  split at ht
  ·rename_i hu
   obtain ⟨b, rfl, _⟩ := DataW.trod_bool hu h;exact ⟨ρ, H, b, [.bool b], hR, fun _ _ h => h, fU.refl H, LRel.of_all rfl, rfl, trivial⟩
  ·cases ht
 | unit =>
  refine ⟨fun t h => by (cases h), ?_⟩;intro fs off hfs fuel cs ρ H hR hl h;refine ⟨ρ, H, (), [], hR, fun _ _ h => h, fU.refl H, ?_, rfl, trivial⟩;have : cs.drop off = [] := List.drop_eq_nil_of_le (by simp [Ty.w] at hl; omega);rw [this]; exact LRel.nil
 | slice ty ih =>
  refine ⟨?_, fun fs off h => by cases h⟩;intro t ht fuel cs x ρ H hR h hwx;simp only [pP] at ht
  split at ht
  ·rename_i e hu
   simp only [Bool.and_eq_true, beq_iff_eq, decide_eq_true_eq] at ht;obtain ⟨⟨⟨ht, he⟩, hw, hby⟩, _⟩ := ht
   rcases DataW.trod_slice hu h with ⟨rfl, _⟩ | ⟨a, len, cap, elems, rest, n, rfl, rfl, hx, _, hlc, hcm, hlen, hel, hsp, _⟩
   ·exact ⟨ρ, H, [], [.slice none 0 0], hR, fun _ _ h => h, fU.refl H, LRel.of_all rfl, .inl ⟨rfl, rfl⟩, Nat.zero_le _, fun x hx => by cases hx⟩
   ·have hwt : DataW.weights P t x.1 = (elems.length + rest.length) * P.bytesOf e :: (DataW.weightsAll P e (elems.map (·.1)) ++ DataW.weightsAll P e (rest.map (·.1))) := by
     rw [hx];unfold DataW.weights;rw [hu];simp
    have hreach : len ≤ reachBytes := by
     have h1 := hwx _ (by rw [hwt]; exact List.mem_cons_self)
     have h2 : len + rest.length ≤ (elems.length + rest.length) * P.bytesOf e := by
      rw [hlen]
      exact Nat.le_mul_of_pos_right _ hby
     omega
    have hwe : ∀ (y : DataW Hd × List MemPlace), (y ∈ elems ∨ y ∈ rest) → wOK P e y.1 := by
     intro y hy n hn;refine hwx n ?_;rw [hwt, List.mem_cons, List.mem_append]
     rcases hy with hy | hy
     ·exact .inr (.inl (rq (List.mem_map.2 ⟨y, hy, rfl⟩) hn))
     ·exact .inr (.inr (rq (List.mem_map.2 ⟨y, hy, rfl⟩) hn))
    rw [he] at hel hsp
    by_cases hc0 : cap = 0
    ·subst hc0
     obtain rfl : len = 0 := by omega
     exact ⟨ρ, H, [], [.slice (some ⟨0, 0, none⟩) 0 0], hR, fun _ _ h => h, fU.refl H, LRel.cons .empty LRel.nil, .inr (.inl ⟨rfl, 0, rfl⟩), Nat.zero_le _, fun x hx => by cases hx⟩
    ·have all : ∀ j, 0 ≤ j → j < 0 + cap → ∃ y, (w.cells? 0 (a.add (j * ty.w)) ty.w).bind (DataW.trod enc P w 0 (fun _ => true) held n e) = some y ∧ wOK P e y.1 := by
      intro j _ hj
      by_cases hjl : j < len
      ·rw [hel j hjl]
       exact ⟨elems[j]'(by omega), cA (by omega), hwe _ (.inl (S4 _))⟩
      ·obtain ⟨hr1, hr2⟩ := hsp rfl
       have := hr2 (j - len) (by omega);rw [show len + (j - len) = j from by omega] at this;rw [this];exact ⟨rest[j - len]'(by omega), cA (by omega), hwe _ (.inr (S4 _))⟩
     -- all cells of its dc are there
     obtain ⟨_, _, _, _, cca, _, _, _, _, _, _, hca, hcal, _⟩ := Qp (fun cs x ρ H => ih.1 e ht n cs x ρ H) a cap 0 ρ H hR all;obtain ⟨ρ1, H1, l, row, cc, hR1, hle1, hk1, hll, hrow, hl1, hcell, hcl, hsm⟩ := Qp (fun cs x ρ H => ih.1 e ht n cs x ρ H) a len 0 ρ H hR (fun j h1 h2 => all j h1 (by omega));have hpos : 0 < cap * ty.w := Nat.mul_pos (by omega) hw;have h0 := hca 0 hpos;have hsome : ∃ v, cca[0]? = some v := ⟨cca[0]'(by omega), cA (by omega)⟩;obtain ⟨v0, hv0⟩ := hsome;rw [hv0] at h0
     have hadd0 : a.add (0 * ty.w + 0) = a := by simp [Addr.add]
     rw [hadd0] at h0;unfold World.cell? at h0
     split at h0
     ·rename_i c el fz hblk
      split at h0
      ·cases h0
      ·rename_i hspot
       obtain ⟨ab, ao, as'⟩ := a
       have : as' = none := by cases as' with | none => rfl | some _ => simp at hspot
       subst this
       have cellsAt : ∀ k, k < cap * ty.w → c[ao + k]? = cca[k]? := by
        intro k hk;have := hca k hk;rw [show 0 * ty.w + k = k from by omega, Addr.add_lit] at this;unfold World.cell? at this;simp only [hblk, Option.isSome_none] at this
        simpa using this
       have hfit : ao + cap * ty.w ≤ c.size := by
        have := cellsAt (cap * ty.w - 1) (by omega);rw [cA (by omega)] at this;have := (Array.getElem?_eq_some_iff.1 this).1;omega
       have hsub : len * ty.w ≤ cap * ty.w := Nat.mul_le_mul_right _ hlc
       have hrl : row.length = len * ty.w := by rw [hl1.1, hcl]
       have hccs : (c.toList.drop ao).take row.length = cc := by
        apply List.ext_getElem?;intro k;rw [hrl, List.getElem?_take]
        by_cases hk : k < len * ty.w
        ·rw [if_pos hk, List.getElem?_drop]
         have h1 := hcell k hk;rw [show 0 * ty.w + k = k from by omega, Addr.add_lit] at h1;unfold World.cell? at h1;simp only [hblk, Option.isSome_none] at h1;rw [← h1];simp
        ·rw [if_neg hk, List.getElem?_eq_none (by omega)]
       have hblk' : w.heap[ab]? = some (.cells c el fz) := hblk;have hab : ab < w.heap.size := (Array.getElem?_eq_some_iff.1 hblk').1;have hp := hR1.pushRo (row := row) (c := ab) (d := ao) (sz := c.size) hab hab ⟨c, el, fz, hblk', rfl, by omega, (fun h => by cases h), by rw [hccs]; exact hl1⟩;have hkp := fU.push H1 (.cells true row);refine ⟨_, _, l, [.slice (some ⟨H1.size, 0, none⟩) l.length ty.w], hp, fun b y h => J0 hR1 _ b y (hle1 b y h), hk1.trans hkp, LRel.cons ?_ LRel.nil, .inr (.inr ⟨H1.size, row, AH.get_push_new _ _, rfl, hrow.mono (Abs.keep hkp ty), by omega⟩), by rw [hll]; exact hreach, hsm⟩;rw [hll];have := VRel.slice (P := P) (ρ := ρ1.upd H1.size (ab, ao, c.size)) (b := H1.size) (o := 0) (n := len) (e := ty.w) (c := ab) (d := ao) (sz := c.size) (k := cap) (bK.upd_same ..) (by omega) hlc hw
       simpa using this
     ·cases h0
  ·cases ht
 | pair a b iha ihb =>
  have fields : ∀ (fs : List Field) (off : Nat), (pP P (.pair a b)).2 fs off = true → ∀ (fuel : Nat) (cs : List Value) (ρ : bK) (H : AH), Rel P w w.heap.size ρ H w → cs.length = off + (a.w + b.w) →
   (∀ f ∈ fs, ∃ y, DataW.trod enc P w 0 (fun _ => true) held fuel f.type ((cs.drop f.offset).take (P.cellsOf f.type)) = some y ∧ wOK P f.type y.1) → ∃ ρ' H', Got P w ρ H (.pair a b) (cs.drop off) ρ' H' := by
   intro fs off hfs fuel cs ρ H hR hl h;simp only [pP] at hfs
   cases fs with
   | nil => cases hfs
   | cons f fs =>
    simp only [Bool.and_eq_true, beq_iff_eq] at hfs;obtain ⟨⟨⟨h1, h2⟩, h3⟩, h4⟩ := hfs;obtain ⟨y, hy, hwy⟩ := h f (by simp);rw [h1, h3] at hy;obtain ⟨ρ1, H1, x1, a1, hR1, hle1, hk1, hl1, ha1, hs1⟩ := iha.1 f.type h2 fuel _ y ρ H hR hy hwy;obtain ⟨ρ2, H2, x2, a2, hR2, hle2, hk2, hl2, ha2, hs2⟩ := ihb.2 fs (off + a.w) h4 fuel cs ρ1 H1 hR1 (by omega) (fun g hg => h g (by simp [hg]));refine ⟨ρ2, H2, (x1, x2), a1 ++ a2, hR2, fun b y h => hle2 b y (hle1 b y h), hk1.trans hk2, ?_, ⟨a1, a2, rfl, Abs.keep hk2 a x1 a1 ha1, ha2⟩, hs1, hs2⟩
    have e : cs.drop off = (cs.drop off).take a.w ++ cs.drop (off + a.w) := by
     rw [← List.drop_drop];exact (List.take_append_drop a.w (cs.drop off)).symm
    rw [e];exact (hl1.mono hle2).append hl2
  refine ⟨?_, fields⟩;intro t ht fuel cs x ρ H hR h hwx;obtain ⟨n, rfl⟩ := ye h;have ht' := ht;simp only [pP] at ht
  split at ht
  ·rename_i fs hu
   simp only [Bool.and_eq_true, beq_iff_eq] at ht;obtain ⟨xs, n', _, hxe, hlen, hxl, hxs⟩ := DataW.trod_struct hu h
   have := fields fs.toList 0 ht.2 n' cs ρ H hR (by rw [hlen, ht.1]; simp) (fun f hf => by
    obtain ⟨i, hi, rfl⟩ := List.mem_iff_getElem.1 hf;have := hxs i fs.toList[i] (by simp);rw [this]
    have hix : i < xs.length := by rw [hxl]; simpa using hi
    refine ⟨xs[i]'hix, cA _, fun n hn => hwx n ?_⟩;rw [hxe];unfold DataW.weights;rw [hu]
    exact Aa (i := i) (by rw [xj, cA hi]; rfl) (by rw [xj, cA hix]; rfl) hn)
   simpa using this
  ·cases ht
end
def valOf : Ty → List Value → Value
 | .pair _ _, cs => .agg cs.toArray
 | .unit, cs => .agg cs.toArray
 | _, cs => cs.headD undef
abbrev UB : List Ty → Type
 | [] => Unit
 | t :: ts => t.I × UB ts
def rt (H : AH) : (ts : List Ty) → UB ts → List Value → Prop
 | [], _, vs => vs = []
 | t :: ts, x, vs => ∃ cs rest, vs = valOf t cs :: rest ∧ Abs H t x.1 cs ∧ rt H ts x.2 rest
theorem rt.keep {H H' : AH} (k : fU H H') : ∀ (ts : List Ty) (x : UB ts) (vs : List Value), rt H ts x vs → rt H' ts x vs := by
 intro ts
 induction ts with
 | nil => intro x vs h; exact h
 | cons t ts ih =>
  intro x vs h;obtain ⟨cs, rest, e, h1, h2⟩ := h;exact ⟨cs, rest, e, Abs.keep k t _ _ h1, ih _ _ h2⟩
def wH : (ts : List Ty) → UB ts → Prop
 | [], _ => True
 | t :: ts, x => AU t x.1 ∧ wH ts x.2
def rH (P : Program) : List Ty → List TypeId → Bool
 | [], [] => true
 | ty :: tys, t :: ts => (pP P ty).1 t && P.readableRec t && decide (t < P.types.size) && rH P tys ts
 | _, _ => false
section
variable {Hd : Type} {enc : TypeId × Value → Hd} {P : Program} {w : World} {held : Bool}
theorem ZR {ty : Ty} {t : TypeId} (ht : (pP P ty).1 t = true) {v : Value} {d : DataW Hd} {ps : List MemPlace} {r : Reach} {b0 : Nat} (hval : Value.okWide P w r b0 t v) (h : DataW.Trod enc P w 0 (fun _ => true) held t v d ps) (hwd : wOK P t d)
 {ρ : bK} {H : AH} (hR : Rel P w w.heap.size ρ H w) : ∃ ρ' H' x avs, Rel P w w.heap.size ρ' H' w ∧ (∀ b y, ρ b = some y → ρ' b = some y) ∧ fU H H' ∧ VRel P ρ' (valOf ty avs) v ∧ Abs H' ty x avs ∧ AU ty x := by
 obtain ⟨fuel, h⟩ := h;obtain ⟨ρ', H', x, avs, h1, h2, h3, h4, h5, h6⟩ := (Y7 (enc := enc) (P := P) (w := w) (held := held) ty).1 t ht fuel _ _ ρ H hR h hwd;refine ⟨ρ', H', x, avs, h1, h2, h3, ?_, h5, h6⟩;have hlen := Abs.length ty x avs h5
 have one : ∀ (hw : ty.w = 1) (hva : ∀ cs, v ≠ .agg cs), VRel P ρ' (avs.headD undef) v := by
  intro hw hva
  have hc : v.cells.toList = [v] := by
   cases v <;> first | rfl | exact absurd rfl (hva _)
  rw [hc] at h4
  match avs, hlen with
  | [a], _ => exact h4.2 0 a v rfl rfl
  | [], hl => rw [hw] at hl; cases hl
  | a :: b :: l, hl => rw [hw] at hl; simp at hl
 cases ty with
 | int k =>
  refine one rfl (fun cs e => ?_);subst e;simp only [pP] at ht
  split at ht
  ·rename_i hu
   unfold Value.okWide at hval;rw [hu] at hval;unfold Cell.okWide at hval;rw [hu] at hval;unfold Cell.ok at hval;rw [hu] at hval;exact hval
  ·cases ht
 | bool =>
  refine one rfl (fun cs e => ?_);subst e;simp only [pP] at ht
  split at ht
  ·rename_i hu
   unfold Value.okWide at hval;rw [hu] at hval;unfold Cell.okWide at hval;rw [hu] at hval;unfold Cell.ok at hval;rw [hu] at hval;exact hval
  ·cases ht
 | slice e =>
  refine one rfl (fun cs e => ?_);subst e;simp only [pP] at ht
  split at ht
  ·rename_i hu
   unfold Value.okWide at hval;rw [hu] at hval;unfold Cell.okWide at hval;rw [hu] at hval;unfold Cell.ok at hval;rw [hu] at hval;exact hval
  ·cases ht
 | unit => simp only [pP] at ht; cases ht
 | pair a b =>
  simp only [pP] at ht
  split at ht
  ·rename_i fs hu
   unfold Value.okWide at hval;rw [hu] at hval;obtain ⟨cs, rfl, _⟩ := hval;have h4 : LRel P ρ' avs cs.toList := h4;exact .agg (by simpa using h4.1) (fun i x y hx hy => h4.2 i x y (by simpa using hx) (by simpa using hy))
  ·cases ht
theorem UO : ∀ (tys : List Ty) (ts : List TypeId) (vs : List Value) (ds : List (DataW Hd)) (ps : List MemPlace), rH P tys ts = true → (∀ (j : Nat) t v, ts[j]? = some t → vs[j]? = some v → ∃ r b0, Value.okWide P w r b0 t v) →
 DataW.TrodAll enc P w 0 (fun _ => true) held ts vs ds ps → (∀ n ∈ DataW.weightsEach P ts ds, n ≤ reachBytes) → ∀ (ρ : bK) (H : AH), Rel P w w.heap.size ρ H w →
 ∃ ρ' H' x avs, Rel P w w.heap.size ρ' H' w ∧ (∀ b y, ρ b = some y → ρ' b = some y) ∧ fU H H' ∧ LRel P ρ' avs vs ∧ rt H' tys x avs ∧ wH tys x := by
 intro tys
 induction tys with
 | nil =>
  intro ts vs ds ps hc hval h hwd ρ H hR
  cases ts with
  | cons t ts => cases hc
  | nil =>
   obtain ⟨rfl, _, _⟩ := trodAll_nil h;exact ⟨ρ, H, (), [], hR, fun _ _ h => h, fU.refl H, LRel.nil, rfl, trivial⟩
 | cons ty tys ih =>
  intro ts vs ds ps hc hval h hwd ρ H hR
  cases ts with
  | nil => cases hc
  | cons t ts =>
   simp only [rH, Bool.and_eq_true] at hc;obtain ⟨⟨⟨hc1, _⟩, _⟩, hc2⟩ := hc;obtain ⟨v, vs', d, ds', p, q, rfl, rfl, rfl, hd, hrest⟩ := trodAll_cons h;obtain ⟨r, b0, hv0⟩ := hval 0 t v rfl rfl;obtain ⟨ρ1, H1, x1, a1, hR1, hle1, hk1, hv1, ha1, hs1⟩ := ZR hc1 hv0 hd (fun n hn => hwd n (by rw [DataW.weightsEach]; exact List.mem_append_left _ hn)) hR;obtain ⟨ρ2, H2, x2, a2, hR2, hle2, hk2, hl2, ha2, hs2⟩ := ih ts vs' ds' q hc2 (fun j t v h1 h2 => hval (j + 1) t v (by simpa using h1) (by simpa using h2)) hrest (fun n hn => hwd n (by rw [DataW.weightsEach]; exact List.mem_append_right _ hn)) ρ1 H1 hR1;exact ⟨ρ2, H2, (x1, x2), valOf ty a1 :: a2, hR2, fun b y h => hle2 b y (hle1 b y h), hk1.trans hk2, LRel.cons (hv1.mono hle2) hl2, ⟨a1, a2, rfl, Abs.keep hk2 ty x1 a1 ha1, ha2⟩, hs1, hs2⟩
theorem Q1 (hl : laidOutB P = true) {W' : World} (hb : Below w.heap.size w W') : ∀ (tys : List Ty) (ts : List TypeId) (vs : List Value) (ds : List (DataW Hd)) (ps : List MemPlace), rH P tys ts = true → (∀ x ∈ ps, x.block < w.heap.size) →
 DataW.TrodAll enc P w 0 (fun _ => true) true ts vs ds ps → DataW.TrodAll enc P W' 0 (fun b => decide (b < w.heap.size)) true ts vs ds ps := by
 intro tys
 induction tys with
 | nil =>
  intro ts vs ds ps hc hlt h
  cases ts with
  | cons t ts => cases hc
  | nil =>
   obtain ⟨rfl, rfl, rfl⟩ := trodAll_nil h;exact trodAll_mk0
 | cons ty tys ih =>
  intro ts vs ds ps hc hlt h
  cases ts with
  | nil => cases hc
  | cons t ts =>
   simp only [rH, Bool.and_eq_true, decide_eq_true_eq] at hc;obtain ⟨⟨⟨_, hc1⟩, hc3⟩, hc2⟩ := hc;obtain ⟨v, vs', d, ds', p, q, rfl, rfl, rfl, hd, hrest⟩ := trodAll_cons h;exact ⟨p, q, Below.trod hl hc1 hc3 hd hb (fun x hx => hlt x (by simp [hx])), ih ts vs' ds' q hc2 (fun x hx => hlt x (by simp [hx])) hrest, rfl⟩
theorem law_post (hm : P.follows .mixedOrders = true) (hl : laidOutB P = true) {G : List Nat} {f : Nat} {fn : Func} {s : ChangeSpec} {tys : List Ty} (hc : rH P tys fn.params.toList = true)
 {tb : TypeId} (hres : fn.resultTypes = #[tb]) (hb : P.underlying tb = some .bool) (hvars : s.vars = [])
 {args : Array Value} {ds gs : List (DataW Hd)} {before : List MemPlace} (hval : ∀ (j : Nat) t v, fn.params[j]? = some t → args[j]? = some v → ∃ r b0, Value.okWide P w r b0 t v)
 (hW : DataW.Whole enc P fn.params.toList s.vars false w args.toList ds gs before) (hspec : s.fn Hd (ds ++ gs) = { results := [.lit (.bool true)], args := ds })
 {ρ0 : bK} {H0 : AH} (hR : Rel P w w.heap.size ρ0 H0 w) (hG : GlobRel ρ0 G)
 (hwt : (DataW.weightsEach P fn.params.toList ds).all (· ≤ reachBytes) = true)
 (run : ∀ (x : UB tys) (avs : List Value) (H : AH), fU H0 H → rt H tys x avs → wH tys x → ∃ H', aF P G f avs H = some (.bool true, H')) :
 Calls P f args w fun e w' => ∃ v, e = .returned v ∧ s.post enc P fn false true false false w args v w' := by
 have hW' := hW;obtain ⟨p, q, hA, hV, rfl, hfz, hnd⟩ := hW;rw [hvars] at hV;obtain ⟨rfl, rfl⟩ := trodVars_none hV;obtain ⟨ρ1, H1, x, avs, hR1, hle1, hk1, hl1, ha1, hs1⟩ := UO tys fn.params.toList args.toList ds p hc (fun j t v h1 h2 => hval j t v (by simpa using h1) (by simpa using h2)) hA (fun n hn => by simpa using List.all_eq_true.1 hwt n hn) ρ0 H0 hR;obtain ⟨H', hrun⟩ := run x avs H1 hk1 ha1 hs1;have hG1 : GlobRel ρ1 G := fun g hg => let ⟨sz, h⟩ := hG g hg; ⟨sz, hle1 _ _ h⟩;have hcall := ((af5 (P := P) (G := G) hm).1 f avs H1 _ H' hrun).2 w w.heap.size ρ1 w args.toList hR1 hG1 hl1;rw [show args.toList.toArray = args from by simp] at hcall;refine hcall.mono fun e w' ⟨v', ρ', he, hv, hext, hR'⟩ => ?_
 have hv : v' = .bool true := by
  cases hv with
  | lit h => rfl
 subst hv;subst he
 have hlt : ∀ y ∈ p, y.block < w.heap.size := fun y hy => by
  have := hW'.lt y (by simp [hy])
  simpa using this
 refine ⟨_, rfl, ds, [], p ++ [], [], p, [], hW', ?_, ?_, ?_, ?_, fun h => by cases h⟩
 ·rw [hspec, hres]
  exact ⟨[], [], shut_bool hb true, trodAll_mk0, rfl⟩
 ·rw [hspec]
  exact Q1 hl hR'.below tys _ _ _ _ hc hlt hA
 ·rw [hvars, hspec]
  rfl
 ·exact hR'.below.frame _
end
theorem rel_none (P : Program) (w : World) : Rel P w w.heap.size (fun _ => none) ⟨[]⟩ w where
 base := bJ _
 below := Below.refl _ _
 dom := fun b x h => by cases h
 blk := fun b c d sz h => by cases h
 obj := fun b c d sz o h => by cases h
 own := fun b c d sz o h => by cases h
 ro := fun b c d sz cs h => by cases h
 inj := fun b b' c d d' sz sz' o o' h => by cases h
end Go.Proofs.YtflbeghglllknaaGreatDoor.Gst
namespace Go.Proofs.YtflbeghglllknaaGreatDoor.Gst
open Go Go.RowKit
set_option maxRecDepth 100000
set_option linter.unusedVariables false
set_option maxHeartbeats 1000000
abbrev Q3 : Nat := 65185151242703554760590262029100101153646988597309960020356494379340201592426774597868716015
abbrev FI : Nat := 11972621413014756705924586149611790497021399392044991
abbrev IH : Nat := 21778071482940061661655974875633165468609
abbrev KV : Nat := 21778071482940061661655974875633164469245
abbrev UU : Nat := 11972621413014756705924586149611790497021399392059327
abbrev FJ : Nat := 1237940039285380274899122808
abbrev Q4 : Nat := 87112285931760246646623899502532662132671
abbrev UW : Nat := 356811923176489970264571492362373784095686572
abbrev DG : Nat := 590295810358705651256
abbrev DH : Nat := 590295810358705650744
abbrev IF : Nat := 21778071482940061661655974875633165530111
abbrev NF : Nat := 2923003274661805836407369665432566039311865085887
abbrev Ba : Nat := 1237940039285380274899123320
abbrev Bb : Nat := 309485009821345068724780233
abbrev acT : Nat := 65185151242703554760590262029100101153646988597309960020356494379340201592426774597868715788
abbrev NG : Nat := 21778071482940061661655974875633165517821
abbrev NH : Nat := 21778071482940061661655974875633165403073
abbrev Bc : Nat := 590295810358705649720
abbrev NI : Nat := 664613997892457936451903530140172271
abbrev IG : Nat := 1237940039285380274899123832
abbrev US : Nat := 356811923176489970264571492362373784095686540
abbrev UT : Nat := 356811923176489970264571492362373784095686412
abbrev NJ : Nat := 40564819207303340847894502572015
abbrev Bd : Nat := 1125899906842566
abbrev NK : Nat := 309485009821345068724780751
abbrev us : Nat := 137438953423
abbrev yl : Nat := 4398046511091
abbrev ym : Nat := 137438953356
abbrev Be : Nat := 4397241204723
abbrev II : Nat := 72057594037927887
abbrev NL : Nat := 590295810358705651519
abbrev NN : Nat := 36893488147419103219
abbrev IJ : Nat := 1125899906842598
abbrev NO : Nat := 576460752303423436
abbrev Bf : Nat := 1073692589
abbrev Bg : Nat := 1073741708
abbrev UV : Nat := 18889465931478580850727
abbrev IK : Nat := 4398046511090
abbrev NP : Nat := 2251799813685196
noncomputable abbrev PP : Program := Tryz.prog
def GG : List Nat := [0]
noncomputable abbrev FF : bE := aF PP GG
noncomputable abbrev CQ (c : Code) (kn : KK) (kx : KX) (kr : KK) : KK := CK PP GG FF c kn kx kr
noncomputable abbrev Iu (c : Code) (kx : KX) (kr : KK) : KK := CL PP GG FF c kx kr
def jd : Nat := 6
def tx : Nat := 9
def bw : Nat := 10
def qC : Nat := 11
def tz : Nat := 13
def mW : Nat := 15
def mV : Nat := 16
def PS : Nat := 17
def gM : Nat := 18
def qD : Nat := 19
def kJ : Nat := 20
def dV : Nat := 21
def fS : Nat := 27
def jf : Nat := 28
def ff : Nat := 29
def d4 : Nat := 30
def nF : Nat := 31
def qE : Nat := 32
def mq : Nat := 33
def mj : Nat := 34
def qG : Nat := 35
def tA : Nat := 39
def XQ : Nat := 40
def jL : Nat := 41
def j5 : Nat := 42
def xp : Nat := 43
def xr : Nat := 44
def xo : Nat := 45
def eH : Nat := 46
def mu : Nat := 47
def bj : Nat := 48
def tw : Nat := 49
def oT : Nat := 50
def j3 : Nat := 51
def fR : Nat := 52
def dp : Nat := 53
def dZ : Nat := 54
def di : Nat := 55
def ml : Nat := 56
def qF : Nat := 60
def jj : Nat := 61
def fv : Nat := 62
def j8 : Nat := 63
def nE : Nat := 64
def xq : Nat := 65
def qB : Nat := 66
def qK : Nat := 67
def tB : Nat := 68
def tu : Nat := 69
def mp : Nat := 70
def mr : Nat := 71
def nH : Nat := 72
def nG : Nat := 73
def j4 : Nat := 74
def dU : Nat := 75
def gN : Nat := 76
def gf : Nat := 77
def iB : Nat := 78
def dW : Nat := 81
def fy : Nat := 82
def mo : Nat := 83
def bY : Nat := 84
def jQ : Nat := 85
def f0 : Nat := 86
def ia : Nat := 87
def jh : Nat := 88
def mi : Nat := 89
def en : Nat := 90
def fB : Nat := 91
def eG : Nat := 92
def bC : Nat := 93
def Cx : Nat := 94
def gO : Nat := 95
def dY : Nat := 96
def kL : Nat := 97
def ej : Nat := 98
def bT : Nat := 99
def iz : Nat := 100
def gu : Nat := 101
def iy : Nat := 102
def jP : Nat := 103
def mt : Nat := 104
def fA : Nat := 105
def iA : Nat := 106
def jg : Nat := 107
def adK : Nat := 108
def XO : Nat := 109
def kV : Nat := 110
def pz : Nat := 111
def fP : Nat := 112
def dq : Nat := 113
def fu : Nat := 114
def XP : Nat := 117
def je : Nat := 118
def fw : Nat := 119
def bB : Nat := 120
def qH : Nat := 121
def tC : Nat := 122
def vA : Nat := 123
def vz : Nat := 124
def XM : Nat := 125
def fZ : Nat := 126
def tD : Nat := 127
def cg : Nat := 128
def nI : Nat := 129
def dC : Nat := 130
def ef : Nat := 131
def f5 : Nat := 132
def iq : Nat := 133
def yE : Nat := 134
def fD : Nat := 135
def mY : Nat := 136
def oU : Nat := 137
def gv : Nat := 138
def iU : Nat := 139
def jJ : Nat := 140
def gc : Nat := 141
def dh : Nat := 142
def cS : Nat := 143
def cG : Nat := 144
def XN : Nat := 145
def jO : Nat := 146
def kM : Nat := 147
def dX : Nat := 148
def ei : Nat := 149
def eg : Nat := 150
def ix : Nat := 151
def kK : Nat := 152
def jM : Nat := 153
def jN : Nat := 154
def ji : Nat := 155
def qA : Nat := 156
def nD : Nat := 157
def tE : Nat := 161
def qJ : Nat := 162
def qI : Nat := 171
def dK : Nat := 172
def kA : Nat := 173
def dl : Nat := 174
def mm : Nat := 175
def lH : Nat := 176
def lE : Nat := 177
def vx : Nat := 178
def bH : Nat := 179
def gL : Nat := 180
def dg : Nat := 181
def cT : Nat := 182
def bd : Nat := 183
def b8 : Nat := 184
def bN : Nat := 185
def mn : Nat := 186
def qL : Nat := 188
def tv : Nat := 189
def jk : Nat := 204
def fQ : Nat := 205
def dF : Nat := 206
def cf : Nat := 207
def eE : Nat := 208
def j6 : Nat := 209
def bq : Nat := 210
def aK : Nat := 211
def dr : Nat := 212
def oV : Nat := 214
def fC : Nat := 243
def lF : Nat := 244
def eF : Nat := 245
def j7 : Nat := 246
def ca : Nat := 247
def dO : Nat := 248
def eI : Nat := 249
def nJ : Nat := 250
def eR : Nat := 251
def gQ : Nat := 267
def gP : Nat := 268
def od : Nat := 269
def jI : Nat := 270
def jH : Nat := 271
def jR : Nat := 272
def dD : Nat := 273
def dw : Nat := 274
def ci : Nat := 275
def ft : Nat := 281
def ge : Nat := 282
def oc : Nat := 283
def hZ : Nat := 284
def lK : Nat := 285
def mZ : Nat := 286
def ic : Nat := 287
def cu : Nat := 288
def fq : Nat := 289
def mX : Nat := 290
def vy : Nat := 291
def lJ : Nat := 292
def lC : Nat := 293
def lD : Nat := 294
def f4 : Nat := 295
def kN : Nat := 296
def gR : Nat := 297
def gb : Nat := 298
def jK : Nat := 299
def dJ : Nat := 300
def jc : Nat := 301
def lG : Nat := 302
def iI : Nat := 303
def lI : Nat := 304
def iJ : Nat := 305
def oa : Nat := 306
section
variable (x0 x1 x2 x3 x4 x5 x6 x7 x8 x9 x10 x11 x12 x13 x14 x15 x16 x20 x32 : Value) (H : AH)
noncomputable def DP (p : List Nat) : Code := Code.sub (bQ Tryz.f9) p
noncomputable def B7 : KK := eO PP (Tryz.f9).results.toList
noncomputable def ac5 : KK := CQ (DP [1, 1, 1, 1, 1]) B7 bP B7
noncomputable def yx : OV := ac5 (ls [u, x1, x2, u, x4, x5, u, u, x8] 79) H
noncomputable def Xd : KK := CQ (DP [1, 1, 1, 1, 1, 1]) B7 bP B7
noncomputable def ac3 : KK := gY NK Xd
noncomputable def yy : OV := Xd (ls [u, u, u, u, x4, x5, u, u, x8] 79) H
noncomputable def ac6 : KK := CQ (DP [1, 1, 1, 1, 1, 0, 1]) ac3 bP B7
noncomputable def yz : OV := ac6 (ls [u, x1, x2, u, x4, x5, u, u, x8, x9] 78) H
noncomputable def Xh : KX := BX 0 ac3 bP
noncomputable def PF : KX := wG NK Xh
noncomputable def Xe : KK := Iu (DP [1, 1, 1, 1, 1, 0, 1, 4, 5]) PF B7
noncomputable def ac4 : KK := gY Bb Xe
noncomputable def mS : OV := Xe (ls [u, x1, x2, u, x4, x5, u, u, x8, x9] 78) H
noncomputable def ac7 : KK := CQ (DP [1, 1, 1, 1, 1, 0, 1, 4, 5, 1]) ac4 PF B7
noncomputable def yA : OV := ac7 (ls [u, x1, x2, u, x4, x5, u, u, x8, x9] 78) H
noncomputable def Xf : KK := CQ (DP [1, 1, 1, 1, 1, 0, 1, 4, 5, 1, 1]) ac4 PF B7
noncomputable def agD : KK := gY Bb Xf
noncomputable def qv : OV := Xf (ls [u, x1, x2, u, x4, x5, u, u, x8, x9] 78) H
noncomputable def aeR : KX := BX 1 agD PF
noncomputable def sL : OV := Xh 0 (ls [u, u, u, u, x4, x5, u, u, x8] 79) H
theorem qn : av 309485009821345068724781007 B7 := rf
theorem aa6 : av 309485009821345068724780745 ac5 := rc qn aE qn
theorem G1 : av NK Xd := rc qn aE qn
theorem aa7 : av Bb ac6 := rc (cd G1) aE qn
theorem uW : ∀ i, av NK (Xh i) := rb (cd G1) aE
theorem Ax : av Bb Xe := rl (cx uW) qn
theorem aa8 : av Bb ac7 := rc (cd Ax) (cx uW) qn
theorem PE : av Bb Xf := rc (cd Ax) (cx uW) qn
theorem Xg : ∀ i, av Bb (aeR i) := rb (cd PE) (cx uW)
theorem Cg : yy x4 x5 x8 H =
 (ay 2 x8 H).bind fun b =>
 (cB 2 x4 b H).bind fun a =>
 (ay 2 x4 a).bind fun c => some (Value.tuple #[c, (vb true)], a) :=
 (by kernel_rfl)
theorem Cj : qv x1 x2 x4 x5 x8 x9 H =
 (ak .other .add x9 (vi 1)).bind fun a =>
 mS x1 x2 x4 x5 x8 a H :=
 (by kernel_rfl)
theorem Ci : yA x1 x2 x4 x5 x8 x9 H =
 ld [.f 0] x2 H fun d =>
 (ak .other .quo x9 d).bind fun e =>
 ld [.f 1] x2 H fun g =>
 (ak .other .lss e g).bind fun a =>
 (gB a true (ay 2 x8 H)).bind fun i =>
 (gV a true x9).bind fun j =>
 (gV a true x9).bind fun k =>
 (gB a true (ak .other .add (vi 1) k)).bind fun l =>
 (gV a true x9).bind fun m =>
 (gB a true (ak .other .rem m (vi 2))).bind fun n =>
 (gB a true (ak .other .add (vi 2) n)).bind fun o =>
 (gE a true H (FF mj [i, j, l, o] H)).bind fun b =>
 (gB a true (oW .not b.1)).bind fun p =>
 (aM a p (vb false)).bind fun q =>
 au q
 (gJ [(0, 1), (1, 1)] [(.pointer none), (.pointer none)] [] fun s =>
 (cB 2 x4 s b.2).bind fun c =>
 (ay 2 x4 c).bind fun t => some (Value.tuple #[t, (vb false)], c))
 (qv x1 x2 x4 x5 x8 x9 b.2) :=
 (pt rfl 0 PE (bt rfl (DP [1, 1, 1, 1, 1, 0, 1, 4, 5, 1, 0, 4]) 1 Xg (by kernel_rfl)))
theorem w9 : sL x4 x5 x8 H = yy x4 x5 x8 H :=
 (by kernel_rfl)
theorem qu : mS x1 x2 x4 x5 x8 x9 H =
 (ak .other .lss x9 x1).bind fun a =>
 au a
 (yA x1 x2 x4 x5 x8 x9 H)
 (sL x4 x5 x8 H) :=
 Jy rfl Ax (pt rfl 0 aa8 (by kernel_rfl))
theorem Ch : yz x1 x2 x4 x5 x8 x9 H =
 mS x1 x2 x4 x5 x8 x9 H :=
 (bt rfl (DP [1, 1, 1, 1, 1, 0, 1, 4]) 0 uW (li rfl (DP [1, 1, 1, 1, 1, 0, 1, 4, 5]) Ax (by kernel_rfl)))
theorem Cf : yx x1 x2 x4 x5 x8 H =
 yz x1 x2 x4 x5 x8 (vi 0) H :=
 (pt rfl 0 G1 (pt rfl 0 aa7 (by kernel_rfl)))
noncomputable def Xt : OV := bi PP GG FF (DP []) (ls [x0, x1] 86) H B7 bP B7
theorem Jt {r : Value × AH} (h : (
 aS (Value.cells x0).toList H fun c y =>
 aS [(.pointer none), (.pointer none)] y fun k m =>
 (ay 5 c m).bind fun z =>
 (FF nF [z] m).bind fun o =>
 (cB 5 c o.1 o.2).bind fun p =>
 (ay 5 c p).bind fun A =>
 (FF qE [A] p).bind fun a =>
 (ag a.1 0).bind fun b =>
 (ag a.1 1).bind fun B =>
 (ak .other .neq B (vi 0)).bind fun l =>
 (gV l false b).bind fun C =>
 (gB l false (ak .ptr .eql C (.pointer none))).bind fun D =>
 (aM l (vb true) D).bind fun d =>
 (gV d false b).bind fun E =>
 fI d false  [.n, .f 0] E a.2 fun G =>
 (gB d false (ak .ptr .eql G (.pointer none))).bind fun I =>
 (aM d (vb true) I).bind fun e =>
 (gV e false b).bind fun J =>
 fI e false  [.n, .f 1] J a.2 fun K =>
 (gB e false (ak .ptr .eql K (.pointer none))).bind fun L =>
 (aM e (vb true) L).bind fun g =>
 (gV g false b).bind fun M =>
 fI g false  [.n, .f 2] M a.2 fun N =>
 (gB g false (ak .ptr .eql N (.pointer none))).bind fun O =>
 (aM g (vb true) O).bind fun i =>
 (gV i false b).bind fun P =>
 fI i false  [.n, .f 3] P a.2 fun Q =>
 (gB i false (ak .ptr .eql Q (.pointer none))).bind fun R =>
 (aM i (vb true) R).bind fun j =>
 (gV j false b).bind fun S =>
 fI j false  [.n, .f 4] S a.2 fun T =>
 (gB j false (ak .ptr .eql T (.pointer none))).bind fun U =>
 (aM j (vb true) U).bind fun V =>
 au V
 (gJ [(0, 1), (1, 1)] [(.pointer none), (.pointer none)] [] fun W =>
 (cB 2 k W a.2).bind fun q =>
 (ay 2 k q).bind fun X => some (Value.tuple #[X, (vb false)], q))
 ((ay 5 c a.2).bind fun Y =>
 (FF mq [Y] a.2).bind fun s =>
 gJ [(0, 1), (1, 1)] [(.pointer none), (.pointer none)] [(0, b), (1, s.1)] fun Z =>
 aS [(.pointer none), (.pointer none)] s.2 fun w a0 =>
 (cB 2 w Z a0).bind fun a1 =>
 yx x1 c k (vb false) w a1)) = some r) : FF tx [x0, x1] H = some r :=
 fo (t := Xt x0 x1 H) Tryz.func9 (by kernel_rfl) (Eq.trans (pt rfl 4 aa6 (by kernel_rfl)) h)
theorem JL {r : Value × AH} (h : (
 (cF (some .u64) x0).bind fun a =>
 (cF (some .u64) x1).bind fun b =>
 (ak .other .rem a b).bind fun c =>
 (cF (some .i64) c).bind fun d =>
 some (d, H)) = some r) : FF bw [x0, x1] H = some r :=
 fo Tryz.func10 (by kernel_rfl) h
noncomputable def uE (p : List Nat) : Code := Code.sub (bQ Tryz.f13) p
noncomputable def sJ : KK := eO PP (Tryz.f13).results.toList
noncomputable def Vr : KK := CQ (uE [1, 1]) sJ bP sJ
noncomputable def yB : OV := Vr (ls [u, x1, x2, u, x4, x5] 31) H
noncomputable def Lx : KK := CQ (uE [1, 1, 1]) sJ bP sJ
noncomputable def Gg : KK := gY us Lx
noncomputable def iT : OV := Lx (ls [u, u, u, u, x4, x5] 31) H
noncomputable def Vt : KK := CQ (uE [1, 1, 0, 1]) Gg bP sJ
noncomputable def yC : OV := Vt (ls [u, x1, x2, u, x4, x5, u, u, u, u, x10] 26) H
noncomputable def Vx : KX := BX 0 Gg bP
noncomputable def Vy : KX := wG us Vx
noncomputable def Vv : KK := CQ (uE [1, 1, 0, 1, 4, 1]) Gg Vy sJ
noncomputable def ky : OV := Vv (ls [u, x1, x2, u, x4, x5, u, u, u, u, x10, u, u, u, x14] 22) H
noncomputable def OB : KK := CQ (uE [1, 1, 0, 1, 4, 1, 3, 1]) Gg Vy sJ
noncomputable def lj : OV := OB (ls [u, x1, u, u, x4, x5, u, u, u, u, u, u, u, u, u, u, u, u, u, u, u, u, u, u, u, u, u, u, u, u, u, u, x32] 4) H
theorem oH : av 137438953455 sJ := rf
theorem Vs : av 137438953417 Vr := rc oH aE oH
theorem qg : av us Lx := rc oH aE oH
theorem Vu : av 137438952393 Vt := rc (cd qg) aE oH
theorem BG : ∀ i, av us (Vx i) := rb (cd qg) aE
theorem Vw : av 137438936009 Vv := rc (cd qg) (cx BG) oH
theorem RP : av 133143986125 OB := rc (cd qg) (cx BG) oH
theorem Cm : iT x4 x5 H =
 (ay 4 x5 H).bind fun b =>
 (cB 4 x4 b H).bind fun a =>
 (ay 4 x4 a).bind fun c => some (c, a) :=
 (by kernel_rfl)
theorem zh : lj x1 x4 x5 x32 H =
 au x32
 (st 1 [.f 0] x5 (vi 2) H fun a =>
 iT x4 x5 a)
 (st 1 [.f 0] x5 (vi 3) H fun b =>
 st 1 [.f 3] x5 x1 b fun c =>
 iT x4 x5 c) :=
 (by kernel_rfl)
theorem qw : ky x1 x2 x4 x5 x10 x14 H =
 au x14
 (st 1 [.f 0] x5 (vi 1) H fun d =>
 ld [.f 2] x2 d fun i =>
 (FF bw [i, (vi 4)] d).bind fun a =>
 (ak .other .gtr a.1 (vi 0)).bind fun j =>
 au j
 (ld [.f 2] x2 a.2 fun k =>
 (FF bw [k, (vi 5)] a.2).bind fun b =>
 (ak .other .add (vi 1) b.1).bind fun l =>
 ad [.f 3] x2 fun c =>
 (aq c b.2).bind fun m =>
 bS (aq c a.2) (aq c b.2) <|
 (FF bw [m, (vi 3)] b.2).bind fun e =>
 (ak .other .add (vi 1) e.1).bind fun n =>
 st 1 [.f 2] x5 l e.2 fun o =>
 st 1 [.f 3] x5 n o fun p =>
 iT x4 x5 p)
 (iT x4 x5 a.2))
 ((ak .other .eql x10 (vi 2)).bind fun g =>
 au g
 (lj x1 x4 x5 g H)
 ((ak .other .eql x10 (vi 3)).bind fun q =>
 lj x1 x4 x5 q H)) :=
 (ct rfl (uE [1, 1, 0, 1, 4, 1, 2]) (uE [1, 1, 0, 1, 4, 1, 3]) (.tmp 14) (by kernel_rfl) (pt rfl 0 RP (by kernel_rfl)))
theorem Cn : yC x1 x2 x4 x5 x10 H =
 (ak .other .eql x10 (vi 0)).bind fun a =>
 au a
 (ky x1 x2 x4 x5 x10 a H)
 ((ak .other .eql x10 (vi 1)).bind fun b =>
 ky x1 x2 x4 x5 x10 b H) :=
 (bt rfl (uE [1, 1, 0, 1, 4]) 0 BG (pt rfl 0 Vw (by kernel_rfl)))
theorem Ck : yB x1 x2 x4 x5 H =
 ld [.f 0] x2 H fun b =>
 (FF bw [b, (vi 5)] H).bind fun a =>
 yC x1 x2 x4 x5 a.1 a.2 :=
 (pt rfl 0 qg (pt rfl 0 Vu (by kernel_rfl)))
noncomputable def Xv : OV := bi PP GG FF (uE []) (ls [x0, x1] 35) H sJ bP sJ
theorem Jv {r : Value × AH} (h : (
 aS (Value.cells x0).toList H fun a e =>
 aS [(vi 0), (vi 0), (vi 0), (vi 0)] e fun f b =>
 (ay 4 a b).bind fun g =>
 (FF qG [g] b).bind fun c =>
 aS [(vi 0), (vi 0), (vi 0), (vi 0)] c.2 fun d i =>
 (cB 4 d c.1 i).bind fun j =>
 yB x1 a f d j) = some r) : FF tz [x0, x1] H = some r :=
 fo (t := Xv x0 x1 H) Tryz.func13 (by kernel_rfl) (Eq.trans (pt rfl 1 Vs (by kernel_rfl)) h)
noncomputable def gZ (p : List Nat) : Code := Code.sub (bQ Tryz.f15) p
noncomputable def im : KK := eO PP (Tryz.f15).results.toList
noncomputable def VF : KK := CQ (gZ [1, 1, 1, 1]) im bP im
noncomputable def vh : OV := VF (ls [u, x1, x2, x3, x4, x5, u, u, u, u, x10, x11, x12, x13, x14] 119) H
noncomputable def LD : KK := CQ (gZ [1, 1, 1, 1, 1]) im bP im
noncomputable def VC : KK := gY NG LD
noncomputable def oR : OV := LD (ls [u, x1, u, u, u, u, u, u, u, u, x10, x11, x12, x13] 120) H
noncomputable def LE : KK := CQ (gZ [1, 1, 1, 1, 1, 1]) im bP im
noncomputable def VD : KK := gY IF LE
noncomputable def vj : OV := LE (ls [u, u, u, u, u, u, u, u, u, u, x10, x11] 122) H
noncomputable def VH : KK := CQ (gZ [1, 1, 1, 1, 1, 0, 1]) VD bP im
noncomputable def vk : OV := VH (ls [u, x1, u, u, u, u, u, u, u, u, x10, x11, x12, x13, u, u, u, u, u, u, x20] 113) H
noncomputable def LH : KX := BX 2 VD bP
noncomputable def Gw : KX := wG IF LH
noncomputable def LF : KK := Iu (gZ [1, 1, 1, 1, 1, 0, 1, 4, 5]) Gw im
noncomputable def VE : KK := gY KV LF
noncomputable def ll : OV := LF (ls [u, x1, u, u, u, u, u, u, u, u, x10, x11, x12, x13, u, u, u, u, u, u, x20] 113) H
noncomputable def VJ : KK := CQ (gZ [1, 1, 1, 1, 1, 0, 1, 4, 5, 1]) VE Gw im
noncomputable def vl : OV := VJ (ls [u, x1, u, u, u, u, u, u, u, u, x10, x11, x12, x13, u, u, u, u, u, u, x20] 113) H
noncomputable def LG : KK := CQ (gZ [1, 1, 1, 1, 1, 0, 1, 4, 5, 1, 1]) VE Gw im
noncomputable def aeH : KK := gY KV LG
noncomputable def oS : OV := LG (ls [u, x1, u, u, u, u, u, u, u, u, x10, x11, x12, x13, u, u, u, u, u, u, x20] 113) H
noncomputable def aeI : KX := BX 3 aeH Gw
noncomputable def qy : OV := LH 2 (ls [u, u, u, u, u, u, u, u, u, u, x10, x11] 122) H
noncomputable def OM : KK := CQ (gZ [1, 1, 1, 1, 0, 1]) VC bP im
noncomputable def sM : OV := OM (ls [u, x1, x2, x3, x4, x5, u, u, u, u, x10, x11, x12, x13, x14, x15] 118) H
noncomputable def Gu : KX := BX 0 VC bP
noncomputable def Ag : KX := wG NG Gu
noncomputable def Gq : KK := Iu (gZ [1, 1, 1, 1, 0, 1, 4, 5]) Ag im
noncomputable def OL : KK := gY IH Gq
noncomputable def jZ : OV := Gq (ls [u, x1, x2, x3, x4, x5, u, u, u, u, x10, x11, x12, x13, x14, x15] 118) H
noncomputable def ON : KK := CQ (gZ [1, 1, 1, 1, 0, 1, 4, 5, 1]) OL Ag im
noncomputable def sN : OV := ON (ls [u, x1, x2, x3, x4, x5, u, u, u, u, x10, x11, x12, x13, x14, x15] 118) H
noncomputable def Gr : KK := CQ (gZ [1, 1, 1, 1, 0, 1, 4, 5, 1, 1]) OL Ag im
noncomputable def uH : KK := gY IH Gr
noncomputable def ip : OV := Gr (ls [u, x1, x2, x3, x4, x5, u, u, u, u, x10, x11, x12, x13, x14, x15] 118) H
noncomputable def Gv : KX := BX 1 uH Ag
noncomputable def Ah : KX := wG IH Gv
noncomputable def OO : KK := CQ (gZ [1, 1, 1, 1, 0, 1, 4, 5, 1, 0, 4, 1]) uH Ah im
noncomputable def sO : OV := OO (ls [u, x1, x2, x3, x4, x5, u, u, u, u, x10, x11, x12, x13, x14, x15, x16] 117) H
noncomputable def OP : KK := CQ (gZ [1, 1, 1, 1, 0, 1, 4, 5, 1, 0, 4, 1, 1]) uH Ah im
noncomputable def j0 : OV := OP (ls [u, x1, x2, x3, x4, x5, u, u, u, u, x10, x11, x12, x13, x14, x15, x16] 117) H
noncomputable def OQ : KK := CQ (gZ [1, 1, 1, 1, 0, 1, 4, 5, 1, 0, 4, 1, 1, 1, 1]) uH Ah im
noncomputable def j1 : OV := OQ (ls [u, x1, x2, x3, x4, x5, u, u, u, u, x10, x11, x12, x13, x14, x15, x16] 117) H
noncomputable def OR : KK := CQ (gZ [1, 1, 1, 1, 0, 1, 4, 5, 1, 0, 4, 1, 1, 1, 1, 1]) uH Ah im
noncomputable def j2 : OV := OR (ls [u, x1, x2, x3, x4, x5, u, u, u, u, x10, x11, x12, x13, x14, x15, x16] 117) H
noncomputable def iw : OV := Gv 1 (ls [u, x1, x2, x3, x4, x5, u, u, u, u, x10, x11, x12, x13, x14, x15] 118) H
noncomputable def px : OV := Gu 0 (ls [u, x1, u, u, u, u, u, u, u, u, x10, x11, x12, x13] 120) H
theorem d6 : av IF im := rf
theorem VG : av 21778071482940061661655974875633165501377 VF := rc d6 aE d6
theorem BO : av NG LD := rc d6 aE d6
theorem BP : av IF LE := rc d6 aE d6
theorem VI : av KV VH := rc (cd BP) aE d6
theorem qi : ∀ i, av IF (LH i) := rb (cd BP) aE
theorem uI : av KV LF := rl (cx qi) d6
theorem VK : av KV VJ := rc (cd uI) (cx qi) d6
theorem Je : av KV LG := rc (cd uI) (cx qi) d6
theorem VL : ∀ i, av KV (aeI i) := rb (cd Je) (cx qi)
theorem RX : av IH OM := rc (cd BO) aE d6
theorem nR : ∀ i, av NG (Gu i) := rb (cd BO) aE
theorem rM : av IH Gq := rl (cx nR) d6
theorem RY : av IH ON := rc (cd rM) (cx nR) d6
theorem lB : av IH Gr := rc (cd rM) (cx nR) d6
theorem nS : ∀ i, av IH (Gv i) := rb (cd lB) (cx nR)
theorem RZ : av NH OO := rc (cd lB) (cx nS) d6
theorem R0 : av NH OP := rc (cd lB) (cx nS) d6
theorem R3 : av NH OQ := rc (cd lB) (cx nS) d6
theorem R4 : av NH OR := rc (cd lB) (cx nS) d6
theorem zp : vj x10 x11 H =
 some (Value.tuple #[(vb true), (vb true)], H) :=
 (by kernel_rfl)
theorem zt : oS x1 x10 x11 x12 x13 x20 H =
 (ak .other .add x20 (vi 1)).bind fun a =>
 ll x1 x10 x11 x12 x13 a H :=
 (by kernel_rfl)
theorem zr : vl x1 x10 x11 x12 x13 x20 H =
 ld [.a 4 3 x20, .f 2] x12 H fun c =>
 (ak .ptr .neq c (.pointer none)).bind fun b =>
 (gV b false x20).bind fun d =>
 fI b false  [.a 4 1 d] x13 H fun e =>
 (gV b false x1).bind fun g =>
 (gV b false x20).bind fun j =>
 fI b false  [.i 1 j] g H fun k =>
 (xu (yv b) false (gI k some) (some undef)).bind fun l =>
 (gB b false (ak .other .lss e l)).bind fun m =>
 (aM b (vb true) m).bind fun n =>
 au n
 (some (Value.tuple #[(vb false), (vb true)], H))
 (oS x1 x10 x11 x12 x13 x20 H) :=
 (pt rfl 0 Je (bt rfl (gZ [1, 1, 1, 1, 1, 0, 1, 4, 5, 1, 0, 4]) 3 VL (by kernel_rfl)))
theorem vg : qy x10 x11 H = vj x10 x11 H :=
 (by kernel_rfl)
theorem py : ll x1 x10 x11 x12 x13 x20 H =
 (ak .other .lss x20 (vi 4)).bind fun a =>
 (gV a true x20).bind fun b =>
 (gV a true x1).bind fun c =>
 (xu (yv a) true (gI c some) (some undef)).bind fun d =>
 (gB a true (ak .other .lss b d)).bind fun e =>
 (aM a e (vb false)).bind fun f =>
 au f
 (vl x1 x10 x11 x12 x13 x20 H)
 (qy x10 x11 H) :=
 Jy rfl uI (pt rfl 0 VK (by kernel_rfl))
theorem zq : vk x1 x10 x11 x12 x13 x20 H =
 ll x1 x10 x11 x12 x13 x20 H :=
 (bt rfl (gZ [1, 1, 1, 1, 1, 0, 1, 4]) 2 qi (li rfl (gZ [1, 1, 1, 1, 1, 0, 1, 4, 5]) uI (by kernel_rfl)))
theorem zo : oR x1 x10 x11 x12 x13 H =
 vk x1 x10 x11 x12 x13 (vi 0) H :=
 (pt rfl 0 BP (pt rfl 0 VI (by kernel_rfl)))
theorem xe : ip x1 x2 x3 x4 x5 x10 x11 x12 x13 x14 x15 H =
 (ak .other .add x15 (vi 1)).bind fun a =>
 jZ x1 x2 x3 x4 x5 x10 x11 x12 x13 x14 a H :=
 (by kernel_rfl)
theorem xi : j2 x1 x2 x3 x4 x5 x10 x11 x12 x13 x14 x15 x16 H =
 ldN 3 [.a 4 3 x16] x12 H fun e =>
 (ay 2 x5 H).bind fun f =>
 (FF kJ [e, f, x14] H).bind fun b =>
 (ag b.1 0).bind fun g =>
 (ag b.1 1).bind fun i =>
 (ag b.1 2).bind fun j =>
 aS [(vi 0), (.slice none 0 0), (vi 0), (vw 0)] b.2 fun k l =>
 (cB 4 k g l).bind fun c =>
 (oW .not j).bind fun m =>
 au m
 (some (Value.tuple #[(vb false), (vb false)], c))
 ((ak .other .add x14 (vi 1)).bind fun d =>
 au i
 (gJ [(0, 1), (1, 1), (2, 1)] [(.pointer none), (.pointer none), (.pointer none)] [] fun n =>
 st 3 [.a 4 3 x16] x12 n c fun o =>
 ip x1 x2 x3 x4 x5 x10 x11 x12 x13 d x15 o)
 (ip x1 x2 x3 x4 x5 x10 x11 x12 x13 d x15 c)) :=
 (by kernel_rfl)
theorem mh : iw x1 x2 x3 x4 x5 x10 x11 x12 x13 x14 x15 H = ip x1 x2 x3 x4 x5 x10 x11 x12 x13 x14 x15 H :=
 (by kernel_rfl)
theorem xh : j1 x1 x2 x3 x4 x5 x10 x11 x12 x13 x14 x15 x16 H =
 ld [.a 4 3 x16, .f 2] x12 H fun e =>
 (ak .ptr .eql e (.pointer none)).bind fun g =>
 au g
 (gI x1 fun j =>
 (ak .other .geq x16 j).bind fun b =>
 (gV b false x16).bind fun k =>
 fI b false  [.a 4 1 k] x13 H fun l =>
 (gV b false x1).bind fun m =>
 (gV b false x16).bind fun n =>
 fI b false  [.i 1 n] m H fun o =>
 (xu (yv b) false (gI o some) (some undef)).bind fun p =>
 (gB b false (ak .other .geq l p)).bind fun q =>
 (aM b (vb true) q).bind fun s =>
 au s
 (iw x1 x2 x3 x4 x5 x10 x11 x12 x13 x14 x15 H)
 ((ay 2 x5 H).bind fun t =>
 ld [.a 4 1 x16] x13 H fun w =>
 ld [.i 1 x16] x1 H fun y =>
 ld [.a 4 1 x16] x13 H fun z =>
 ldN 4 [.i 4 z] y H fun A =>
 (FF qD [t, x16, w, A] H).bind fun c =>
 st 3 [.a 4 3 x16] x12 c.1 c.2 fun d =>
 ld [.a 4 1 x16] x13 d fun B =>
 (ak .other .add B (vi 1)).bind fun C =>
 st 1 [.a 4 1 x16] x13 C d fun D =>
 j2 x1 x2 x3 x4 x5 x10 x11 x12 x13 x14 x15 x16 D))
 (j2 x1 x2 x3 x4 x5 x10 x11 x12 x13 x14 x15 x16 H) :=
 (pt rfl 0 R4 (by kernel_rfl))
theorem xg : j0 x1 x2 x3 x4 x5 x10 x11 x12 x13 x14 x15 x16 H =
 (ak .other .eql x16 (vi 8)).bind fun b =>
 (gV b true x4).bind fun c =>
 (aM b c (vb false)).bind fun d =>
 au d
 ((ay 2 x5 H).bind fun e =>
 (FF tA [e, x15] H).bind fun a =>
 (oW .not a.1).bind fun f =>
 au f
 (some (Value.tuple #[(vb false), (vb false)], a.2))
 (iw x1 x2 x3 x4 x5 x10 x11 x12 x13 x14 x15 a.2))
 ((ak .other .rem x16 (vi 4)).bind fun g =>
 j1 x1 x2 x3 x4 x5 x10 x11 x12 x13 x14 x15 g H) :=
 (pt rfl 1 R3 (by kernel_rfl))
theorem xf : sO x1 x2 x3 x4 x5 x10 x11 x12 x13 x14 x15 x16 H =
 gI x2 fun b =>
 (ak .other .lss x15 b).bind fun c =>
 au c
 (ld [.i 1 x15] x2 H fun d =>
 (FF bw [d, (vi 9)] H).bind fun a =>
 j0 x1 x2 x3 x4 x5 x10 x11 x12 x13 x14 x15 a.1 a.2)
 (j0 x1 x2 x3 x4 x5 x10 x11 x12 x13 x14 x15 x16 H) :=
 (pt rfl 0 R0 (by kernel_rfl))
theorem xd : sN x1 x2 x3 x4 x5 x10 x11 x12 x13 x14 x15 H =
 (ak .other .rem x15 (vi 4)).bind fun a =>
 sO x1 x2 x3 x4 x5 x10 x11 x12 x13 x14 x15 a H :=
 (pt rfl 0 lB (bt rfl (gZ [1, 1, 1, 1, 0, 1, 4, 5, 1, 0, 4]) 1 nS (pt rfl 0 RZ (by kernel_rfl))))
theorem tq : px x1 x10 x11 x12 x13 H = oR x1 x10 x11 x12 x13 H :=
 (by kernel_rfl)
theorem n8 : jZ x1 x2 x3 x4 x5 x10 x11 x12 x13 x14 x15 H =
 (ak .other .lss x15 x3).bind fun a =>
 au a
 (sN x1 x2 x3 x4 x5 x10 x11 x12 x13 x14 x15 H)
 (px x1 x10 x11 x12 x13 H) :=
 Jy rfl rM (pt rfl 0 RY (by kernel_rfl))
theorem xa : sM x1 x2 x3 x4 x5 x10 x11 x12 x13 x14 x15 H =
 jZ x1 x2 x3 x4 x5 x10 x11 x12 x13 x14 x15 H :=
 (bt rfl (gZ [1, 1, 1, 1, 0, 1, 4]) 0 nR (li rfl (gZ [1, 1, 1, 1, 0, 1, 4, 5]) rM (by kernel_rfl)))
theorem zn : vh x1 x2 x3 x4 x5 x10 x11 x12 x13 x14 H =
 sM x1 x2 x3 x4 x5 x10 x11 x12 x13 x14 (vi 0) H :=
 (pt rfl 0 BO (pt rfl 0 RX (by kernel_rfl)))
noncomputable def S3 : OV := bi PP GG FF (gZ []) (ls [x0, x1, x2, x3, x4] 129) H im bP im
theorem Hb {r : Value × AH} (h : (
 aS (Value.cells x0).toList H fun a b =>
 aS [(.pointer none), (.pointer none), (.pointer none), (.pointer none), (.pointer none), (.pointer none), (.pointer none), (.pointer none), (.pointer none), (.pointer none), (.pointer none), (.pointer none)] b fun c d =>
 aS [(vi 0), (vi 0), (vi 0), (vi 0)] d fun e f =>
 vh x1 x2 x3 x4 a (vb false) (vb false) c e (vi 0) f) = some r) : FF mW [x0, x1, x2, x3, x4] H = some r :=
 fo (t := S3 x0 x1 x2 x3 x4 H) Tryz.func15 (by kernel_rfl) (Eq.trans (pt rfl 3 VG (by kernel_rfl)) h)
noncomputable def sK (p : List Nat) : Code := Code.sub (bQ Tryz.f16) p
noncomputable def qj : KK := eO PP (Tryz.f16).results.toList
noncomputable def VP : KK := CQ (sK [1, 1]) qj bP qj
noncomputable def u9 : OV := VP (ls [x0, x1, u, u, x4, x5] 31) H
noncomputable def LK : KK := CQ (sK [1, 1, 1]) qj bP qj
noncomputable def VN : KK := gY us LK
noncomputable def vc : OV := LK (ls [u, u, u, u, x4, x5] 31) H
noncomputable def VR : KK := CQ (sK [1, 1, 0, 1]) VN bP qj
noncomputable def vd : OV := VR (ls [x0, x1, u, u, x4, x5, x6] 30) H
noncomputable def LO : KX := BX 0 VN bP
noncomputable def GC : KX := wG us LO
noncomputable def LM : KK := Iu (sK [1, 1, 0, 1, 4, 5]) GC qj
noncomputable def VO : KK := gY ym LM
noncomputable def lk : OV := LM (ls [x0, x1, u, u, x4, x5, x6] 30) H
noncomputable def VT : KK := CQ (sK [1, 1, 0, 1, 4, 5, 1]) VO GC qj
noncomputable def ve : OV := VT (ls [x0, x1, u, u, x4, x5, x6] 30) H
noncomputable def LN : KK := CQ (sK [1, 1, 0, 1, 4, 5, 1, 1]) VO GC qj
noncomputable def aeJ : KK := gY ym LN
noncomputable def vf : OV := LN (ls [x0, x1, u, u, x4, x5, x6] 30) H
noncomputable def aeK : KX := BX 1 aeJ GC
noncomputable def i9 : OV := LO 0 (ls [u, u, u, u, x4, x5] 31) H
theorem mM : av 137438953455 qj := rf
theorem VQ : av 137438953420 VP := rc mM aE mM
theorem BT : av us LK := rc mM aE mM
theorem VS : av ym VR := rc (cd BT) aE mM
theorem qk : ∀ i, av us (LO i) := rb (cd BT) aE
theorem uJ : av ym LM := rl (cx qk) mM
theorem VU : av ym VT := rc (cd uJ) (cx qk) mM
theorem Jh : av ym LN := rc (cd uJ) (cx qk) mM
theorem VV : ∀ i, av ym (aeK i) := rb (cd Jh) (cx qk)
theorem pr : vc x4 x5 H =
 some (x5, H) :=
 (by kernel_rfl)
theorem zm : vf x0 x1 x4 x5 x6 H =
 (ak .other .add x6 (vi 1)).bind fun a =>
 lk x0 x1 x4 x5 a H :=
 (by kernel_rfl)
theorem zl : ve x0 x1 x4 x5 x6 H =
 (ak .other .rem x6 (vi 4)).bind fun d =>
 (ak .other .rem x6 (vi 4)).bind fun e =>
 ad [.i 1 e] x5 fun a =>
 (aq a H).bind fun f =>
 ldN 4 [.i 4 x6] x0 H fun g =>
 (FF tz [g, x6] H).bind fun b =>
 bS (aq a b.2) (aq a H) <|
 AB 1 4 [(vi 0), (vi 0), (vi 0), (vi 0)] [(0, b.1)] b.2 fun j k =>
 (e8 4 32 f j k).bind fun c =>
 st 1 [.i 1 d] x5 c.1 c.2 fun l =>
 vf x0 x1 x4 x5 x6 l :=
 (pt rfl 0 Jh (bt rfl (sK [1, 1, 0, 1, 4, 5, 1, 0, 4]) 1 VV (by kernel_rfl)))
theorem mU : i9 x4 x5 H = vc x4 x5 H :=
 (by kernel_rfl)
theorem pw : lk x0 x1 x4 x5 x6 H =
 gI x0 fun b =>
 (ak .other .lss x6 b).bind fun a =>
 (gV a true x6).bind fun c =>
 (gV a true x1).bind fun d =>
 (gB a true (ak .other .lss c d)).bind fun e =>
 (aM a e (vb false)).bind fun f =>
 au f
 (ve x0 x1 x4 x5 x6 H)
 (i9 x4 x5 H) :=
 Jy rfl uJ (pt rfl 0 VU (by kernel_rfl))
theorem zk : vd x0 x1 x4 x5 x6 H =
 lk x0 x1 x4 x5 x6 H :=
 (bt rfl (sK [1, 1, 0, 1, 4]) 0 qk (li rfl (sK [1, 1, 0, 1, 4, 5]) uJ (by kernel_rfl)))
theorem zj : u9 x0 x1 x4 x5 H =
 vd x0 x1 x4 x5 (vi 0) H :=
 (pt rfl 0 BT (pt rfl 0 VS (by kernel_rfl)))
noncomputable def S2 : OV := bi PP GG FF (sK []) (ls [x0, x1] 35) H qj bP qj
theorem Ha {r : Value × AH} (h : (
 (mv [(.slice none 0 0)] 1 24 (vi 4) (vi 4) H).bind fun a =>
 u9 x0 x1 (.slice none 0 0) a.1 a.2) = some r) : FF mV [x0, x1] H = some r :=
 fo (t := S2 x0 x1 H) Tryz.func16 (by kernel_rfl) (Eq.trans (pt rfl 1 VQ (by kernel_rfl)) h)
noncomputable def ga (p : List Nat) : Code := Code.sub (bQ Tryz.f17) p
noncomputable def i5 : KK := eO PP (Tryz.f17).results.toList
noncomputable def VY : KK := CQ (ga [1, 1]) i5 bP i5
noncomputable def X3 : OV := VY (ls [x0, x1, x2, u, u, u, x6, x7] 61) H
noncomputable def LR : KK := CQ (ga [1, 1, 1]) i5 bP i5
noncomputable def VW : KK := gY NL LR
noncomputable def X4 : OV := LR (ls [u, u, u, u, u, u, x6, x7] 61) H
noncomputable def V0 : KK := CQ (ga [1, 1, 0, 1]) VW bP i5
noncomputable def X5 : OV := V0 (ls [x0, x1, x2, u, u, u, x6, x7, x8] 60) H
noncomputable def LU : KX := BX 0 VW bP
noncomputable def GL : KX := wG NL LU
noncomputable def LS : KK := Iu (ga [1, 1, 0, 1, 4, 5]) GL i5
noncomputable def VX : KK := gY DG LS
noncomputable def Hr : OV := LS (ls [x0, x1, x2, u, u, u, x6, x7, x8] 60) H
noncomputable def V2 : KK := CQ (ga [1, 1, 0, 1, 4, 5, 1]) VX GL i5
noncomputable def X6 : OV := V2 (ls [x0, x1, x2, u, u, u, x6, x7, x8] 60) H
noncomputable def LT : KK := CQ (ga [1, 1, 0, 1, 4, 5, 1, 1]) VX GL i5
noncomputable def LQ : KK := gY DG LT
noncomputable def Mw : OV := LT (ls [x0, x1, x2, u, u, u, x6, x7, x8] 60) H
noncomputable def V6 : KX := BX 1 LQ GL
noncomputable def V7 : KX := wG DG V6
noncomputable def V4 : KK := CQ (ga [1, 1, 0, 1, 4, 5, 1, 0, 4, 1]) LQ V7 i5
noncomputable def X7 : OV := V4 (ls [x0, x1, x2, u, u, u, x6, x7, x8, x9] 59) H
noncomputable def GJ : KX := BX 2 LQ V7
noncomputable def Aj : KX := wG DG GJ
noncomputable def GE : KK := Iu (ga [1, 1, 0, 1, 4, 5, 1, 0, 4, 1, 4, 5]) Aj i5
noncomputable def O0 : KK := gY DH GE
noncomputable def AC : OV := GE (ls [x0, x1, x2, u, u, u, x6, x7, x8, x9] 59) H
noncomputable def O2 : KK := CQ (ga [1, 1, 0, 1, 4, 5, 1, 0, 4, 1, 4, 5, 1]) O0 Aj i5
noncomputable def PW : OV := O2 (ls [x0, x1, x2, u, u, u, x6, x7, x8, x9] 59) H
noncomputable def GF : KK := CQ (ga [1, 1, 0, 1, 4, 5, 1, 0, 4, 1, 4, 5, 1, 1]) O0 Aj i5
noncomputable def GD : KK := gY DH GF
noncomputable def Hq : OV := GF (ls [x0, x1, x2, u, u, u, x6, x7, x8, x9] 59) H
noncomputable def O5 : KX := BX 3 GD Aj
noncomputable def O6 : KX := wG DH O5
noncomputable def O3 : KK := CQ (ga [1, 1, 0, 1, 4, 5, 1, 0, 4, 1, 4, 5, 1, 0, 4, 1, 1]) GD O6 i5
noncomputable def PX : OV := O3 (ls [x0, x1, x2, u, u, u, x6, x7, x8, x9, x10] 58) H
noncomputable def GK : KX := BX 4 GD O6
noncomputable def Ak : KX := wG DH GK
noncomputable def GH : KK := Iu (ga [1, 1, 0, 1, 4, 5, 1, 0, 4, 1, 4, 5, 1, 0, 4, 1, 1, 4, 5]) Ak i5
noncomputable def O1 : KK := gY Bc GH
noncomputable def AF : OV := GH (ls [x0, x1, x2, u, u, u, x6, x7, x8, x9, x10] 58) H
noncomputable def O4 : KK := CQ (ga [1, 1, 0, 1, 4, 5, 1, 0, 4, 1, 4, 5, 1, 0, 4, 1, 1, 4, 5, 1]) O1 Ak i5
noncomputable def PY : OV := O4 (ls [x0, x1, x2, u, u, u, x6, x7, x8, x9, x10] 58) H
noncomputable def GI : KK := CQ (ga [1, 1, 0, 1, 4, 5, 1, 0, 4, 1, 4, 5, 1, 0, 4, 1, 1, 4, 5, 1, 1]) O1 Ak i5
noncomputable def aaM : KK := gY Bc GI
noncomputable def PZ : OV := GI (ls [x0, x1, x2, u, u, u, x6, x7, x8, x9, x10] 58) H
noncomputable def aaN : KX := BX 5 aaM Ak
noncomputable def r7 : OV := GK 4 (ls [x0, x1, x2, u, u, u, x6, x7, x8, x9] 59) H
noncomputable def xv : OV := GJ 2 (ls [x0, x1, x2, u, u, u, x6, x7, x8] 60) H
noncomputable def JF : OV := LU 0 (ls [u, u, u, u, u, u, x6, x7] 61) H
theorem fc : av 590295810358705651647 i5 := rf
theorem VZ : av 590295810358705651512 VY := rc fc aE fc
theorem BU : av NL LR := rc fc aE fc
theorem V1 : av DG V0 := rc (cd BU) aE fc
theorem ql : ∀ i, av NL (LU i) := rb (cd BU) aE
theorem uL : av DG LS := rl (cx ql) fc
theorem V3 : av DG V2 := rc (cd uL) (cx ql) fc
theorem uM : av DG LT := rc (cd uL) (cx ql) fc
theorem BV : ∀ i, av DG (V6 i) := rb (cd uM) (cx ql)
theorem V5 : av DH V4 := rc (cd uM) (cx BV) fc
theorem nU : ∀ i, av DG (GJ i) := rb (cd uM) (cx BV)
theorem rO : av DH GE := rl (cx nU) fc
theorem Sb : av DH O2 := rc (cd rO) (cx nU) fc
theorem rP : av DH GF := rc (cd rO) (cx nU) fc
theorem w5 : ∀ i, av DH (O5 i) := rb (cd rP) (cx nU)
theorem Sc : av Bc O3 := rc (cd rP) (cx w5) fc
theorem nV : ∀ i, av DH (GK i) := rb (cd rP) (cx w5)
theorem rR : av Bc GH := rl (cx nV) fc
theorem Sd : av Bc O4 := rc (cd rR) (cx nV) fc
theorem EC : av Bc GI := rc (cd rR) (cx nV) fc
theorem Se : ∀ i, av Bc (aaN i) := rb (cd EC) (cx nV)
theorem E0 : X4 x6 x7 H =
 some (x7, H) :=
 (by kernel_rfl)
theorem Te : Mw x0 x1 x2 x6 x7 x8 H =
 (ak .other .add x8 (vi 1)).bind fun a =>
 Hr x0 x1 x2 x6 x7 a H :=
 (by kernel_rfl)
theorem Mr : Hq x0 x1 x2 x6 x7 x8 x9 H =
 (ak .other .add x9 (vi 1)).bind fun a =>
 AC x0 x1 x2 x6 x7 x8 a H :=
 (by kernel_rfl)
theorem Mv : PZ x0 x1 x2 x6 x7 x8 x9 x10 H =
 (ak .other .add x10 (vi 1)).bind fun a =>
 AF x0 x1 x2 x6 x7 x8 x9 a H :=
 (by kernel_rfl)
theorem Mt : PY x0 x1 x2 x6 x7 x8 x9 x10 H =
 ld [.i 1 x9] x0 H fun c =>
 (FF bw [c, x1] H).bind fun a =>
 AB 1 1 [(vi 0)] [(0, a.1)] a.2 fun d e =>
 (e8 1 8 x7 d e).bind fun b =>
 PZ x0 x1 x2 x6 b.1 x8 x9 x10 b.2 :=
 (pt rfl 0 EC (bt rfl (ga [1, 1, 0, 1, 4, 5, 1, 0, 4, 1, 4, 5, 1, 0, 4, 1, 1, 4, 5, 1, 0, 4]) 5 Se (by kernel_rfl)))
theorem vE : r7 x0 x1 x2 x6 x7 x8 x9 H = Hq x0 x1 x2 x6 x7 x8 x9 H :=
 (by kernel_rfl)
theorem CA : AF x0 x1 x2 x6 x7 x8 x9 x10 H =
 ld [.i 1 x9] x0 H fun c =>
 (FF bw [c, (vi 7)] H).bind fun b =>
 (ak .other .rem x8 (vi 3)).bind fun d =>
 (ak .other .mul b.1 d).bind fun e =>
 (ak .other .lss x10 e).bind fun a =>
 (gV a true x7).bind fun f =>
 (xu (yv a) true (gI f some) (some undef)).bind fun g =>
 (gV a true x2).bind fun j =>
 (gB a true (ak .other .lss g j)).bind fun k =>
 (aM a k (vb false)).bind fun l =>
 au l
 (PY x0 x1 x2 x6 x7 x8 x9 x10 b.2)
 (r7 x0 x1 x2 x6 x7 x8 x9 b.2) :=
 Jy rfl rR (pt rfl 0 Sd (by kernel_rfl))
theorem Ms : PX x0 x1 x2 x6 x7 x8 x9 x10 H =
 AF x0 x1 x2 x6 x7 x8 x9 x10 H :=
 (bt rfl (ga [1, 1, 0, 1, 4, 5, 1, 0, 4, 1, 4, 5, 1, 0, 4, 1, 1, 4]) 4 nV (li rfl (ga [1, 1, 0, 1, 4, 5, 1, 0, 4, 1, 4, 5, 1, 0, 4, 1, 1, 4, 5]) rR (by kernel_rfl)))
theorem Mq : PW x0 x1 x2 x6 x7 x8 x9 H =
 ld [.i 1 x9] x0 H fun c =>
 (FF bw [c, x1] H).bind fun a =>
 AB 1 1 [(vi 0)] [(0, a.1)] a.2 fun d e =>
 (e8 1 8 x7 d e).bind fun b =>
 PX x0 x1 x2 x6 b.1 x8 x9 (vi 0) b.2 :=
 (pt rfl 0 rP (bt rfl (ga [1, 1, 0, 1, 4, 5, 1, 0, 4, 1, 4, 5, 1, 0, 4]) 3 w5 (pt rfl 1 Sc (by kernel_rfl))))
theorem Ho : xv x0 x1 x2 x6 x7 x8 H = Mw x0 x1 x2 x6 x7 x8 H :=
 (by kernel_rfl)
theorem Mo : AC x0 x1 x2 x6 x7 x8 x9 H =
 gI x0 fun b =>
 (ak .other .lss x9 b).bind fun a =>
 (gV a true x7).bind fun c =>
 (xu (yv a) true (gI c some) (some undef)).bind fun d =>
 (gV a true x2).bind fun e =>
 (gB a true (ak .other .lss d e)).bind fun f =>
 (aM a f (vb false)).bind fun g =>
 au g
 (PW x0 x1 x2 x6 x7 x8 x9 H)
 (xv x0 x1 x2 x6 x7 x8 H) :=
 Jy rfl rO (pt rfl 0 Sb (by kernel_rfl))
theorem Tf : X7 x0 x1 x2 x6 x7 x8 x9 H =
 AC x0 x1 x2 x6 x7 x8 x9 H :=
 (bt rfl (ga [1, 1, 0, 1, 4, 5, 1, 0, 4, 1, 4]) 2 nU (li rfl (ga [1, 1, 0, 1, 4, 5, 1, 0, 4, 1, 4, 5]) rO (by kernel_rfl)))
theorem Td : X6 x0 x1 x2 x6 x7 x8 H =
 X7 x0 x1 x2 x6 x7 x8 (vi 0) H :=
 (pt rfl 0 uM (bt rfl (ga [1, 1, 0, 1, 4, 5, 1, 0, 4]) 1 BV (pt rfl 0 V5 (by kernel_rfl))))
theorem yF : JF x6 x7 H = X4 x6 x7 H :=
 (by kernel_rfl)
theorem E3 : Hr x0 x1 x2 x6 x7 x8 H =
 (ak .other .lss x8 (vi 40)).bind fun a =>
 (gV a true x0).bind fun b =>
 (xu (yv a) true (gI b some) (some undef)).bind fun c =>
 (gB a true (ak .other .gtr c (vi 0))).bind fun d =>
 (aM a d (vb false)).bind fun e =>
 au e
 (X6 x0 x1 x2 x6 x7 x8 H)
 (JF x6 x7 H) :=
 Jy rfl uL (pt rfl 0 V3 (by kernel_rfl))
theorem Tc : X5 x0 x1 x2 x6 x7 x8 H =
 Hr x0 x1 x2 x6 x7 x8 H :=
 (bt rfl (ga [1, 1, 0, 1, 4]) 0 ql (li rfl (ga [1, 1, 0, 1, 4, 5]) uL (by kernel_rfl)))
theorem Tb : X3 x0 x1 x2 x6 x7 H =
 X5 x0 x1 x2 x6 x7 (vi 0) H :=
 (pt rfl 0 BU (pt rfl 0 V1 (by kernel_rfl)))
noncomputable def pMa : OV := bi PP GG FF (ga []) (ls [x0, x1, x2] 66) H i5 bP i5
theorem aeX {r : Value × AH} (h : (
 X3 x0 x1 x2 (.slice none 0 0) (.slice none 0 0) H) = some r) : FF PS [x0, x1, x2] H = some r :=
 fo (t := pMa x0 x1 x2 H) Tryz.func17 (by kernel_rfl) (Eq.trans (pt rfl 1 VZ (by kernel_rfl)) h)
theorem vr {r : Value × AH} (h : (
 ld [.n, .f 1] x0 H fun b =>
 (FF XQ [b] H).bind fun a =>
 some (a.1, a.2)) = some r) : FF gM [x0] H = some r :=
 fo Tryz.func18 (by kernel_rfl) h
noncomputable def V8 (p : List Nat) : Code := Code.sub (bQ Tryz.f19) p
noncomputable def BW : KK := eO PP (Tryz.f19).results.toList
noncomputable def V9 : KK := CQ (V8 [1, 1, 1]) BW bP BW
noncomputable def u7 : OV := V9 (ls [u, x1, u, u, x4, u, u, x7, x8, x9] 26) H
noncomputable def Wb : KK := CQ (V8 [1, 1, 1, 1]) BW bP BW
noncomputable def oQ : OV := Wb (ls [u, u, u, u, u, u, u, u, x8, x9] 26) H
theorem Am : av 68719476479 BW := rf
theorem Wa : av 68719475821 V9 := rc Am aE Am
theorem Wc : av 68719475967 Wb := rc Am aE Am
theorem pp : oQ x8 x9 H =
 (ay 3 x9 H).bind fun b =>
 (cB 3 x8 b H).bind fun a =>
 (ay 3 x8 a).bind fun c => some (c, a) :=
 (by kernel_rfl)
theorem pn : u7 x1 x4 x7 x8 x9 H =
 ld [.f 0] x7 H fun c =>
 (ak .other .eql c (vi 3)).bind fun d =>
 au d
 (ld [.f 0] x4 H fun e =>
 (ay 4 x7 H).bind fun g =>
 (FF xp [e, x1, g] H).bind fun a =>
 st 1 [.f 0] x9 a.1 a.2 fun i =>
 oQ x8 x9 i)
 (ld [.f 0] x4 H fun j =>
 (ay 4 x7 H).bind fun k =>
 (FF xr [j, x1, k] H).bind fun b =>
 st 1 [.f 1] x9 b.1 b.2 fun l =>
 oQ x8 x9 l) :=
 (pt rfl 0 Wc (by kernel_rfl))
noncomputable def S0 : OV := bi PP GG FF (V8 []) (ls [x0, x1, x2, x3] 32) H BW bP BW
theorem G9 {r : Value × AH} (h : (
 aS (Value.cells x0).toList H fun a i =>
 aS (Value.cells x3).toList i fun c j =>
 aS [(.pointer none), (.pointer none), (.pointer none)] j fun k d =>
 (ay 2 a d).bind fun l =>
 (FF jL [l, x1, x2] d).bind fun b =>
 ld [.f 1] a b.2 fun m =>
 (ay 4 c b.2).bind fun n =>
 (FF j5 [m, x1, n] b.2).bind fun e =>
 gJ [(0, 1), (1, 1), (2, 1)] [(.pointer none), (.pointer none), (.pointer none)] [(2, e.1)] fun o =>
 aS [(.pointer none), (.pointer none), (.pointer none)] e.2 fun g p =>
 (cB 3 g o p).bind fun q =>
 u7 x1 a c k g q) = some r) : FF qD [x0, x1, x2, x3] H = some r :=
 fo (t := S0 x0 x1 x2 x3 H) Tryz.func19 (by kernel_rfl) (Eq.trans (pt rfl 2 Wa (by kernel_rfl)) h)
end
section
variable (x0 x1 x2 x3 x4 x5 x6 x7 x8 x9 x10 x11 x13 x15 x35 x48 x51 x93 x97 x112 x133 x151 x171 x186 x197 x242 x248 x272 x283 x297 : Value) (H : AH)
noncomputable def Ph (p : List Nat) : Code := Code.sub (bQ Tryz.f20) p
noncomputable def BY : KK := eO PP (Tryz.f20).results.toList
noncomputable def Wd : KK := CQ (Ph [1, 1, 1]) BY bP BY
noncomputable def n6 : OV := Wd (ls [u, u, x2, x3, x4, u, x6, x7, x8, x9, x10, x11] 62) H
noncomputable def LW : KK := CQ (Ph [1, 1, 1, 1]) BY bP BY
noncomputable def aeL : KK := gY UV LW
noncomputable def gH : OV := LW (ls [u, u, u, x3, x4, u, x6, x7, x8, x9, x10, x11] 62) H
noncomputable def aaW : KX := BX 0 aeL bP
theorem An : av 18889465931478580854335 BY := rf
theorem We : av 18889465931478580850723 Wd := rc An aE An
theorem Ji : av UV LW := rc An aE An
theorem Su : ∀ i, av UV (aaW i) := rb (cd Ji) aE
theorem sm : gH x3 x4 x6 x7 x8 x9 x10 x11 H =
 (ay 4 x9 H).bind fun m =>
 (ak .bool .eql x10 x11).bind fun d =>
 (gB d true (ay 4 x9 H)).bind fun o =>
 fI d true  [.f 2] x3 H fun p =>
 (gV d true x11).bind fun q =>
 (gE d true H (FF oT [p, q] H)).bind fun e =>
 bS (ay 4 x9 e.2) (ay 4 x9 H) <|
 bS (ay 4 x9 e.2) (ay 4 x9 H) <|
 (gE d true e.2 (FF tw [o, e.1] e.2)).bind fun c =>
 bS (ay 4 x9 c.2) (ay 4 x9 H) <|
 (aM d c.1 (vb false)).bind fun a =>
 fI a true  [.f 0] x4 c.2 fun s =>
 fI a true  [.n, .f 0] s c.2 fun t =>
 (gE a true c.2 (FF j3 [t] c.2)).bind fun b =>
 bS (ay 4 x9 b.2) (ay 4 x9 H) <|
 G3 a true  [.f 1] x4 fun g =>
 (gB a true (aq g b.2)).bind fun w =>
 bS (aq g c.2) (aq g b.2) <|
 G3 a true  [.n, .f 5] w fun i =>
 (gB a true (aq i b.2)).bind fun y =>
 bS (aq i c.2) (aq i b.2) <|
 G3 a true  [.n, .f 2] y fun j =>
 (gB a true (aq j b.2)).bind fun k =>
 bS (aq j c.2) (aq j b.2) <|
 (xu (yv a) true (gI k some) (some undef)).bind fun z =>
 bS (abD k) (abD k) <|
 (gB a true (ak .other .eql b.1 z)).bind fun A =>
 (aM a A (vb false)).bind fun B =>
 (cB 4 x6 m b.2).bind fun l =>
 bS (aq g l) (aq g b.2) <|
 bS (aq i l) (aq i b.2) <|
 bS (aq j l) (aq j b.2) <|
 bS (abD k) (abD k) <|
 (ay 4 x6 l).bind fun C => some (Value.tuple #[C, x11, B], l) :=
 (by kernel_rfl)
theorem kR : n6 x2 x3 x4 x6 x7 x8 x9 x10 x11 H =
 ld [.f 0] x3 H fun j =>
 (ak .ptr .neq j (.pointer none)).bind fun k =>
 au k
 (ld [.f 0] x3 H fun l =>
 (FF xo [l, x2] H).bind fun a =>
 (ag a.1 0).bind fun m =>
 (ag a.1 1).bind fun n =>
 (cB 4 x9 m a.2).bind fun c =>
 ld [.f 2] x3 c fun o =>
 (FF eH [o, x2] c).bind fun d =>
 gH x3 x4 x6 x7 x8 x9 n d.1 d.2)
 (ld [.f 1] x3 H fun p =>
 (ak .ptr .neq p (.pointer none)).bind fun q =>
 au q
 (ld [.f 1] x3 H fun s =>
 (FF mu [s, x2] H).bind fun b =>
 (ag b.1 0).bind fun t =>
 (ag b.1 1).bind fun w =>
 (cB 4 x9 t b.2).bind fun e =>
 ld [.f 2] x3 e fun y =>
 (FF bj [y, x2] e).bind fun g =>
 gH x3 x4 x6 x7 x8 x9 w g.1 g.2)
 ((ay 4 x9 H).bind fun z =>
 (cB 4 x6 z H).bind fun i =>
 (ay 4 x6 i).bind fun A => some (Value.tuple #[A, (vb false), (vb false)], i))) :=
 (pt rfl 0 Ji (bt rfl (Ph [1, 1, 1, 0, 4]) 0 Su (by kernel_rfl)))
noncomputable def DR : OV := bi PP GG FF (Ph []) (ls [x0, x1, x2] 71) H BY bP BY
theorem n7 {r : Value × AH} (h : (
 aS (Value.cells x0).toList H fun a b =>
 aS (Value.cells x1).toList b fun c d =>
 aS [(vi 0), (.slice none 0 0), (vi 0), (vw 0)] d fun e f =>
 aS [(vi 0), (.slice none 0 0), (vi 0), (vw 0)] f fun g i =>
 n6 x2 a c e (vb false) (vb false) g (vb false) (vb false) i) = some r) : FF kJ [x0, x1, x2] H = some r :=
 fo (t := DR x0 x1 x2 H) Tryz.func20 (by kernel_rfl) (Eq.trans (pt rfl 2 We (by kernel_rfl)) h)
theorem ss {r : Value × AH} (h : (
 (FF fR [x0, x1] H).bind fun a =>
 (oW .not a.1).bind fun b =>
 au b
 (some ((.pointer none), a.2))
 (ld [.n, .f 10] x0 a.2 fun c =>
 ld [.i 4 x1, .f 3] c a.2 fun d =>
 some (d, a.2))) = some r) : FF dV [x0, x1] H = some r :=
 fo Tryz.func21 (by kernel_rfl) h
theorem sD {r : Value × AH} (h : (
 ad [.n, .f 0] x0 fun b =>
 (aq b H).bind fun d =>
 (FF jj [x2, x3] H).bind fun c =>
 bS (aq b c.2) (aq b H) <|
 (FF dp [d, x1, c.1] c.2).bind fun a =>
 (ak .other .eql a.1 (vw 0)).bind fun e =>
 au e
 (some (Value.tuple #[(vi 0), (vi 0), (vb false)], a.2))
 ((ak .other .shr a.1 (vw 32)).bind fun g =>
 (cF (some .i64) g).bind fun i =>
 (ak .other .sub i (vi 1)).bind fun j =>
 (ak .other .and a.1 (vw 4294967295)).bind fun k =>
 (cF (some .i64) k).bind fun l =>
 some (Value.tuple #[j, l, (vb true)], a.2))) = some r) : FF fS [x0, x1, x2, x3] H = some r :=
 fo Tryz.func27 (by kernel_rfl) h
theorem tH {r : Value × AH} (h : (
 aS [(vi 0), (vi 0), (vw 0)] H fun a g =>
 (FF fR [x0, x2] g).bind fun b =>
 (oW .not b.1).bind fun j =>
 au j
 (gJ [(0, 1), (1, 1), (2, 1)] [(vi 0), (vi 0), (vw 0)] [] fun k =>
 (cB 3 a k b.2).bind fun d =>
 (ay 3 a d).bind fun l => some (l, d))
 (ld [.n, .f 0] x0 b.2 fun m =>
 gJ [(0, 1), (1, 1), (2, 1)] [(vi 0), (vi 0), (vi 0)] [(0, (vi 13)), (1, x2)] fun o =>
 (FF ml [m, x1, o] b.2).bind fun c =>
 ld [.n, .f 10] x0 c.2 fun p =>
 ldN 3 [.i 4 x2, .f 0] p c.2 fun q =>
 (cB 3 a q c.2).bind fun e =>
 (ay 3 a e).bind fun s => some (s, e))) = some r) : FF jf [x0, x1, x2] H = some r :=
 fo Tryz.func28 (by kernel_rfl) h
theorem re {r : Value × AH} (h : (
 ld [.n, .f 1] x0 H fun a =>
 (ak .other .rem x1 a).bind fun b =>
 ld [.n, .f 1] x0 H fun c =>
 (ak .other .add b c).bind fun d =>
 ld [.n, .f 1] x0 H fun e =>
 (ak .other .rem d e).bind fun g =>
 some (g, H)) = some r) : FF ff [x0, x1] H = some r :=
 fo Tryz.func29 (by kernel_rfl) h
theorem sC {r : Value × AH} (h : (
 ad [.n, .f 0] x0 fun a =>
 (aq a H).bind fun d =>
 (FF j8 [x2] H).bind fun b =>
 bS (aq a b.2) (aq a H) <|
 (FF fv [d, x1, b.1, (vw 0), (vw 1)] b.2).bind fun c =>
 some (c.1, c.2)) = some r) : FF d4 [x0, x1, x2] H = some r :=
 fo Tryz.func30 (by kernel_rfl) h
noncomputable def Wf (p : List Nat) : Code := Code.sub (bQ Tryz.f31) p
noncomputable def BZ : KK := eO PP (Tryz.f31).results.toList
noncomputable def Wg : KK := CQ (Wf [1, 1]) BZ bP BZ
noncomputable def qP : OV := Wg (ls [u, x1, x2, x3] 29) H
noncomputable def Wi : KK := CQ (Wf [1, 1, 1]) BZ bP BZ
noncomputable def jp : OV := Wi (ls [u, x1, x2, x3] 29) H
theorem Ao : av 8589934587 BZ := rf
theorem Wh : av 8589934577 Wg := rc Ao aE Ao
theorem Wj : av 8589934577 Wi := rc Ao aE Ao
theorem vK : jp x1 x2 x3 H =
 ld [.f 0] x1 H fun k =>
 (FF bw [k, (vi 4)] H).bind fun b =>
 (ak .other .add (vi 1) b.1).bind fun l =>
 ad [.f 1] x1 fun g =>
 (aq g b.2).bind fun m =>
 bS (aq g H) (aq g b.2) <|
 (FF bw [m, (vi 4)] b.2).bind fun c =>
 (ak .other .add (vi 1) c.1).bind fun n =>
 ad [.f 2] x1 fun e =>
 (aq e c.2).bind fun o =>
 bS (aq e H) (aq e c.2) <|
 bS (aq e b.2) (aq e c.2) <|
 (FF bw [o, (vi 6)] c.2).bind fun d =>
 (ak .other .add (vi 1) d.1).bind fun p =>
 ad [.f 3] x1 fun a =>
 (aq a d.2).bind fun q =>
 bS (aq a H) (aq a d.2) <|
 bS (aq a b.2) (aq a d.2) <|
 bS (aq a c.2) (aq a d.2) <|
 (FF bw [q, (vi 12)] d.2).bind fun i =>
 gJ [(0, 1), (1, 1), (2, 1), (3, 1), (4, 1)] [(vi 0), (vi 0), (vi 0), (vi 0), (vw 0)] [(0, l), (1, n), (2, p), (3, i.1), (4, x3)] fun s =>
 (cB 5 x2 s i.2).bind fun j =>
 (ay 5 x2 j).bind fun t => some (t, j) :=
 (by kernel_rfl)
theorem vJ : qP x1 x2 x3 H =
 ld [.f 4] x1 H fun a =>
 (ak .other .rem a (vw 4)).bind fun b =>
 (ak .other .eql b (vw 3)).bind fun c =>
 au c
 (ld [.f 4] x1 H fun d =>
 (ak .other .rem d (vw 4611686018427387904)).bind fun e =>
 (ak .other .add (vw 1) e).bind fun g =>
 jp x1 x2 g H)
 (jp x1 x2 x3 H) :=
 (pt rfl 0 Wj (by kernel_rfl))
noncomputable def JK : OV := bi PP GG FF (Wf []) (ls [x0] 32) H BZ bP BZ
theorem CD {r : Value × AH} (h : (
 aS (Value.cells x0).toList H fun a c =>
 aS [(vi 0), (vi 0), (vi 0), (vi 0), (vw 0)] c fun d b =>
 ld [.f 4] a b fun e =>
 (ak .other .rem e (vw 5000)).bind fun g =>
 (ak .other .add (vw 1) g).bind fun i =>
 qP a d i b) = some r) : FF nF [x0] H = some r :=
 fo (t := JK x0 H) Tryz.func31 (by kernel_rfl) (Eq.trans (pt rfl 1 Wh (by kernel_rfl)) h)
theorem Ht {r : Value × AH} (h : (
 aS (Value.cells x0).toList H fun a m =>
 (ay 5 a m).bind fun n =>
 (FF nE [n] m).bind fun j =>
 (oW .not j.1).bind fun o =>
 au o
 (some (Value.tuple #[(.pointer none), (vi 1)], j.2))
 ((FF xq [] j.2).bind fun b =>
 ld [.f 0] a b.2 fun p =>
 (FF qB [b.1, p] b.2).bind fun c =>
 ad [.f 0] a fun k =>
 (aq k c.2).bind fun q =>
 bS (aq k b.2) (aq k c.2) <|
 ad [.f 1] a fun l =>
 (aq l c.2).bind fun s =>
 bS (aq l b.2) (aq l c.2) <|
 (FF qK [b.1, q, s] c.2).bind fun d =>
 ad [.f 2] a fun i =>
 (aq i d.2).bind fun t =>
 bS (aq i b.2) (aq i d.2) <|
 bS (aq i c.2) (aq i d.2) <|
 (FF tB [b.1, t] d.2).bind fun e =>
 (ay 5 a e.2).bind fun w =>
 bS (ay 5 a b.2) (ay 5 a e.2) <|
 bS (ay 5 a c.2) (ay 5 a e.2) <|
 bS (ay 5 a d.2) (ay 5 a e.2) <|
 (FF tu [w] e.2).bind fun g =>
 (ay 5 a g.2).bind fun y =>
 bS (ay 5 a b.2) (ay 5 a g.2) <|
 bS (ay 5 a c.2) (ay 5 a g.2) <|
 bS (ay 5 a d.2) (ay 5 a g.2) <|
 bS (ay 5 a e.2) (ay 5 a g.2) <|
 DT g.2 fun z A =>
 gJ [(0, 1), (1, 1), (2, 1), (3, 1), (4, 1), (5, 5), (10, 1), (11, 1), (12, 1)] [(.pointer none), (.pointer none), (.pointer none), (.pointer none), (.pointer none), (vi 0), (vi 0), (vi 0), (vi 0), (vw 0), (.slice none 0 0), (.map none), (.slice none 0 0)] [(0, b.1), (1, c.1), (2, d.1), (3, e.1), (4, g.1), (5, y), (7, z)] fun B =>
 aS (Value.cells B).toList A fun C D =>
 some (Value.tuple #[C, (vi 0)], D))) = some r) : FF qE [x0] H = some r :=
 fo Tryz.func32 (by kernel_rfl) h
theorem zR {r : Value × AH} (h : (
 aS (Value.cells x0).toList H fun a m =>
 gJ [(0, 1), (1, 1), (2, 1)] [(.slice none 0 0), (.slice none 0 0), (.slice none 0 0)] [] fun n =>
 aS (Value.cells n).toList m fun i b =>
 (ay 5 a b).bind fun o =>
 ld [.f 0] a b fun p =>
 (FF mp [i, p] b).bind fun c =>
 bS (ay 5 a c.2) (ay 5 a b) <|
 ad [.f 0] a fun j =>
 (aq j c.2).bind fun q =>
 bS (aq j b) (aq j c.2) <|
 ad [.f 1] a fun k =>
 (aq k c.2).bind fun s =>
 bS (aq k b) (aq k c.2) <|
 (FF mr [i, q, s] c.2).bind fun d =>
 bS (ay 5 a d.2) (ay 5 a b) <|
 ad [.f 2] a fun g =>
 (aq g d.2).bind fun t =>
 bS (aq g b) (aq g d.2) <|
 bS (aq g c.2) (aq g d.2) <|
 (FF nH [i, t] d.2).bind fun e =>
 bS (ay 5 a e.2) (ay 5 a b) <|
 (ay 5 a e.2).bind fun w =>
 bS (ay 5 a b) (ay 5 a e.2) <|
 bS (ay 5 a c.2) (ay 5 a e.2) <|
 bS (ay 5 a d.2) (ay 5 a e.2) <|
 (FF nG [w] e.2).bind fun l =>
 bS (ay 5 a l.2) (ay 5 a b) <|
 gJ [(0, 5), (5, 1), (6, 1), (7, 1), (8, 1), (9, 1), (10, 1), (11, 1), (12, 1), (13, 1)] [(vi 0), (vi 0), (vi 0), (vi 0), (vw 0), (.pointer none), (.pointer none), (.pointer none), (.pointer none), (.pointer none), (.slice none 0 0), (.slice none 0 0), (.slice none 0 0), (.slice none 0 0)] [(0, o), (1, i), (2, c.1), (3, d.1), (4, e.1), (5, l.1)] fun y =>
 aS (Value.cells y).toList l.2 fun z A =>
 some (z, A)) = some r) : FF mq [x0] H = some r :=
 fo Tryz.func33 (by kernel_rfl) h
theorem zg {r : Value × AH} (h : (
 aS (Value.cells x0).toList H fun i l =>
 ld [.f 1] i l fun s =>
 ldN 5 [.n, .f 0] s l fun t =>
 aS [(vi 0), (vi 0), (vi 0), (vi 0), (vw 0)] l fun g w =>
 (cB 5 g t w).bind fun p =>
 ld [.f 4] g p fun y =>
 (FF j4 [y, x2] p).bind fun m =>
 (ag m.1 0).bind fun z =>
 (ag m.1 1).bind fun a3 =>
 gJ [(0, 1), (1, 1), (2, 1)] [(vi 0), (vi 0), (vw 0)] [(0, x1), (1, x3), (2, z)] fun A =>
 aS [(vi 0), (vi 0), (vw 0)] m.2 fun j B =>
 (cB 3 j A B).bind fun k =>
 ld [.f 0] i k fun C =>
 (ay 3 j k).bind fun D =>
 (FF dU [C, (vi 0), D] k).bind fun d =>
 ad [.f 1] i fun o =>
 (aq o d.2).bind fun E =>
 bS (aq o k) (aq o d.2) <|
 (ay 3 j d.2).bind fun G =>
 bS (ay 3 j k) (ay 3 j d.2) <|
 (FF gN [E, (vi 0), G] d.2).bind fun c =>
 (ak .other .eql d.1 c.1).bind fun a =>
 fI a true  [.f 0] i c.2 fun I =>
 fI a true  [.n, .f 2] I c.2 fun J =>
 (gV a true x1).bind fun K =>
 fI a true  [.f 0] g c.2 fun L =>
 (gB a true (ak .other .rem K L)).bind fun M =>
 (gV a true x1).bind fun N =>
 fI a true  [.f 0] g c.2 fun O =>
 (gB a true (ak .other .quo N O)).bind fun P =>
 (gV a true x1).bind fun Q =>
 (gV a true d.1).bind fun R =>
 (gE a true c.2 (FF gf [J, (vi 0), M, P, Q, R] c.2)).bind fun e =>
 (aM a e.1 (vb false)).bind fun b =>
 fI b true  [.f 1] i e.2 fun S =>
 fI b true  [.n, .f 7] S e.2 fun T =>
 (gV b true x1).bind fun U =>
 fI b true  [.f 0] g e.2 fun V =>
 (gB b true (ak .other .rem U V)).bind fun W =>
 (gV b true x1).bind fun X =>
 fI b true  [.f 0] g e.2 fun Y =>
 (gB b true (ak .other .quo X Y)).bind fun Z =>
 (gV b true x1).bind fun a0 =>
 (gV b true c.1).bind fun a1 =>
 (gE b true e.2 (FF iB [T, (vi 0), W, Z, a0, a1] e.2)).bind fun q =>
 (aM b q.1 (vb false)).bind fun a2 =>
 some (a2, q.2)) = some r) : FF mj [x0, x1, x2, x3] H = some r :=
 fo Tryz.func34 (by kernel_rfl) h
noncomputable def pf (p : List Nat) : Code := Code.sub (bQ Tryz.f35) p
noncomputable def qm : KK := eO PP (Tryz.f35).results.toList
noncomputable def Wl : KK := CQ (pf [1, 1, 1]) qm bP qm
noncomputable def vG : OV := Wl (ls [u, x1, x2, x3] 61) H
noncomputable def LX : KK := CQ (pf [1, 1, 1, 1]) qm bP qm
noncomputable def B0 : KK := gY NN LX
noncomputable def dm : OV := LX (ls [u, u, x2, x3] 61) H
noncomputable def Wn : KK := CQ (pf [1, 1, 1, 0, 1]) B0 bP qm
noncomputable def vH : OV := Wn (ls [u, x1, x2, x3, u, u, u, u, u, u, u, u, u, u, u, x15] 49) H
noncomputable def Wr : KX := BX 0 B0 bP
noncomputable def LY : KX := wG NN Wr
noncomputable def Wp : KK := CQ (pf [1, 1, 1, 0, 1, 4, 1]) B0 LY qm
noncomputable def vI : OV := Wp (ls [u, x1, x2, x3, u, u, u, u, u, u, u, u, u, u, u, x15, u, u, u, u, u, u, u, u, u, u, u, u, u, u, u, u, u, u, u, x35] 29) H
noncomputable def Pj : KK := CQ (pf [1, 1, 1, 0, 1, 4, 1, 3, 1]) B0 LY qm
noncomputable def sS : OV := Pj (ls [u, x1, x2, x3, u, u, u, u, u, u, u, u, u, u, u, x15, u, u, u, u, u, u, u, u, u, u, u, u, u, u, u, u, u, u, u, u, u, u, u, u, u, u, u, u, u, u, u, u, x48] 16) H
noncomputable def Pl : KK := CQ (pf [1, 1, 1, 0, 1, 4, 1, 3, 1, 3, 1]) B0 LY qm
noncomputable def j9 : OV := Pl (ls [u, x1, x2, x3, u, u, u, u, u, u, u, u, u, u, u, x15, u, u, u, u, u, u, u, u, u, u, u, u, u, u, u, u, u, u, u, u, u, u, u, u, u, u, u, u, u, u, u, u, u, u, u, x51] 13) H
theorem mN : av 36893488147419103227 qm := rf
theorem Wm : av 36893488147419103217 Wl := rc mN aE mN
theorem nX : av NN LX := rc mN aE mN
theorem Wo : av 36893488147419070449 Wn := rc (cd nX) aE mN
theorem uS : ∀ i, av NN (Wr i) := rb (cd nX) aE
theorem Wq : av 36893488113059332081 Wp := rc (cd nX) (cx uS) mN
theorem Sy : av 36893206672442359793 Pj := rc (cd nX) (cx uS) mN
theorem Sz : av 36891236347605385201 Pl := rc (cd nX) (cx uS) mN
theorem zE : dm x2 x3 H =
 (ay 4 x3 H).bind fun b =>
 (cB 4 x2 b H).bind fun a =>
 (ay 4 x2 a).bind fun c => some (c, a) :=
 (by kernel_rfl)
theorem xx : j9 x1 x2 x3 x15 x51 H =
 au x51
 (gJ [(0, 1), (1, 1), (2, 1), (3, 1)] [(vi 0), (vi 0), (vi 0), (vi 0)] [(0, (vi 4))] fun j =>
 (cB 4 x3 j H).bind fun k =>
 dm x2 x3 k)
 ((ak .other .eql x15 (vi 8)).bind fun l =>
 au l
 (ld [.f 2] x1 H fun m =>
 (FF bw [m, (vi 6)] H).bind fun d =>
 gJ [(0, 1), (1, 1), (2, 1), (3, 1)] [(vi 0), (vi 0), (vi 0), (vi 0)] [(0, (vi 5)), (2, d.1)] fun n =>
 (cB 4 x3 n d.2).bind fun o =>
 dm x2 x3 o)
 ((ak .other .eql x15 (vi 9)).bind fun p =>
 au p
 (gJ [(0, 1), (1, 1), (2, 1), (3, 1)] [(vi 0), (vi 0), (vi 0), (vi 0)] [(0, (vi 6))] fun q =>
 (cB 4 x3 q H).bind fun s =>
 dm x2 x3 s)
 (ld [.f 2] x1 H fun t =>
 (FF bw [t, (vi 9)] H).bind fun a =>
 (ak .other .add (vi 1) a.1).bind fun w =>
 ad [.f 3] x1 fun c =>
 (aq c a.2).bind fun y =>
 bS (aq c H) (aq c a.2) <|
 (FF bw [y, (vi 1000)] a.2).bind fun e =>
 st 1 [.f 0] x3 (vi 3) e.2 fun z =>
 st 1 [.f 2] x3 w z fun A =>
 st 1 [.f 3] x3 e.1 A fun g =>
 ld [.f 2] x1 g fun B =>
 (FF bw [B, (vi 13)] g).bind fun b =>
 (ak .other .eql b.1 (vi 12)).bind fun C =>
 au C
 (ld [.f 2] x1 b.2 fun D =>
 (FF bw [D, (vi 65536)] b.2).bind fun i =>
 (ak .other .add (vi 1) i.1).bind fun E =>
 st 1 [.f 2] x3 E i.2 fun G =>
 dm x2 x3 G)
 (dm x2 x3 b.2)))) :=
 (by kernel_rfl)
theorem xw : sS x1 x2 x3 x15 x48 H =
 au x48
 (st 1 [.f 0] x3 (vi 2) H fun b =>
 dm x2 x3 b)
 ((ak .other .eql x15 (vi 6)).bind fun a =>
 au a
 (j9 x1 x2 x3 x15 a H)
 ((ak .other .eql x15 (vi 7)).bind fun c =>
 j9 x1 x2 x3 x15 c H)) :=
 (ct rfl (pf [1, 1, 1, 0, 1, 4, 1, 3, 1, 2]) (pf [1, 1, 1, 0, 1, 4, 1, 3, 1, 3]) (.tmp 48) (by kernel_rfl) (pt rfl 0 Sz (by kernel_rfl)))
theorem zG : vI x1 x2 x3 x15 x35 H =
 au x35
 (ld [.f 2] x1 H fun d =>
 (FF bw [d, (vi 5)] H).bind fun a =>
 (ak .other .add (vi 1) a.1).bind fun e =>
 ad [.f 3] x1 fun b =>
 (aq b a.2).bind fun g =>
 bS (aq b H) (aq b a.2) <|
 (FF bw [g, (vi 3)] a.2).bind fun c =>
 (ak .other .add (vi 1) c.1).bind fun i =>
 st 1 [.f 0] x3 (vi 1) c.2 fun j =>
 st 1 [.f 2] x3 e j fun k =>
 st 1 [.f 3] x3 i k fun l =>
 dm x2 x3 l)
 ((ak .other .eql x15 (vi 1)).bind fun m =>
 sS x1 x2 x3 x15 m H) :=
 (ct rfl (pf [1, 1, 1, 0, 1, 4, 1, 2]) (pf [1, 1, 1, 0, 1, 4, 1, 3]) (.tmp 35) (by kernel_rfl) (pt rfl 0 Sy (by kernel_rfl)))
theorem zF : vH x1 x2 x3 x15 H =
 (ak .other .eql x15 (vi 0)).bind fun a =>
 vI x1 x2 x3 x15 a H :=
 (bt rfl (pf [1, 1, 1, 0, 1, 4]) 0 uS (pt rfl 0 Wq (by kernel_rfl)))
theorem zD : vG x1 x2 x3 H =
 ld [.f 0] x1 H fun b =>
 (FF bw [b, (vi 10)] H).bind fun a =>
 vH x1 x2 x3 a.1 a.2 :=
 (pt rfl 0 nX (pt rfl 0 Wo (by kernel_rfl)))
noncomputable def Tj : OV := bi PP GG FF (pf []) (ls [x0] 64) H qm bP qm
theorem Hw {r : Value × AH} (h : (
 aS (Value.cells x0).toList H fun b j =>
 aS [(vi 0), (vi 0), (vi 0), (vi 0)] j fun c d =>
 ld [.f 1] b d fun k =>
 (FF bw [k, (vi 23)] d).bind fun a =>
 (ak .other .eql a.1 (vi 22)).bind fun l =>
 au l
 ((ay 4 b a.2).bind fun m =>
 (cB 4 c m a.2).bind fun e =>
 (ay 4 c e).bind fun n => some (n, e))
 (ld [.f 1] b a.2 fun o =>
 (FF bw [o, (vi 5)] a.2).bind fun g =>
 gJ [(0, 1), (1, 1), (2, 1), (3, 1)] [(vi 0), (vi 0), (vi 0), (vi 0)] [(1, g.1)] fun p =>
 aS [(vi 0), (vi 0), (vi 0), (vi 0)] g.2 fun i q =>
 (cB 4 i p q).bind fun s =>
 vG b c i s)) = some r) : FF qG [x0] H = some r :=
 fo (t := Tj x0 H) Tryz.func35 (by kernel_rfl) (Eq.trans (pt rfl 2 Wm (by kernel_rfl)) h)
theorem Jw {r : Value × AH} (h : (
 aS (Value.cells x0).toList H fun e d =>
 (ak .other .rem x1 (vi 2)).bind fun y =>
 (ak .other .eql y (vi 0)).bind fun g =>
 fI g false  [.f 1] e d fun z =>
 fI g false  [.n, .f 11] z d fun A =>
 (xu (yv g) false (gI A some) (some undef)).bind fun B =>
 (gB g false (ak .other .eql B (vi 0))).bind fun C =>
 (aM g (vb true) C).bind fun D =>
 au D
 (ld [.f 0] e d fun E =>
 (FF dW [E, (vi 5)] d).bind fun s =>
 ld [.f 1] e s.2 fun G =>
 (FF fy [G, (vi 5)] s.2).bind fun I =>
 some ((vb true), I.2))
 ((ak .other .quo x1 (vi 2)).bind fun J =>
 ld [.f 1] e d fun K =>
 ld [.n, .f 11] K d fun L =>
 gI L fun M =>
 (FF bw [J, M] d).bind fun b =>
 ld [.f 0] e b.2 fun N =>
 (FF dV [N, b.1] b.2).bind fun a =>
 ad [.f 1] e fun k =>
 (aq k a.2).bind fun O =>
 bS (aq k b.2) (aq k a.2) <|
 ad [.n, .f 11] O fun l =>
 (aq l a.2).bind fun P =>
 bS (aq l b.2) (aq l a.2) <|
 ad [.i 1 b.1] P fun m =>
 (aq m a.2).bind fun t =>
 bS (aq m b.2) (aq m a.2) <|
 ad [.n, .f 0] t fun o =>
 (aq o a.2).bind fun Q =>
 (FF bY [(vi 11), b.1, (vi 0)] a.2).bind fun p =>
 bS (aq o p.2) (aq o a.2) <|
 (FF mo [Q, p.1] p.2).bind fun j =>
 (ak .ptr .neq a.1 (.pointer none)).bind fun c =>
 (gV c true a.1).bind fun R =>
 (gV c true j.1).bind fun S =>
 (gE c true j.2 (FF jQ [R, (vi 5), S] j.2)).bind fun q =>
 (gV c true t).bind fun T =>
 (gV c true j.1).bind fun U =>
 (gE c true q.2 (FF f0 [T, (vi 5), U, (vi 1)] q.2)).bind fun w =>
 (gB c true (ak .bool .eql q.1 w.1)).bind fun V =>
 (aM c V (vb false)).bind fun W =>
 some (W, w.2))) = some r) : FF tA [x0, x1] H = some r :=
 fo Tryz.func39 (by kernel_rfl) h
theorem ae7 {r : Value × AH} (h : (
 (ak .slice .eql x0 (.slice none 0 0)).bind fun b =>
 au b
 (some ((.slice none 0 0), H))
 (AB 0 5 [(vi 0), (vi 0), (vi 0), (vi 0), (vi 0)] [] H fun c d =>
 (e8 5 40 c x0 d).bind fun a =>
 some (a.1, a.2))) = some r) : FF XQ [x0] H = some r :=
 fo Tryz.func40 (by kernel_rfl) h
theorem u6 {r : Value × AH} (h : (
 aS (Value.cells x0).toList H fun a b =>
 ld [.f 0] a b fun d =>
 (FF ia [d, x1, x2] b).bind fun c =>
 ld [.f 1] a c.2 fun e =>
 (FF jh [e, x1, x2] c.2).bind fun g =>
 some (Value.tuple #[], g.2)) = some r) : FF jL [x0, x1, x2] H = some r :=
 fo Tryz.func41 (by kernel_rfl) h
theorem qS {r : Value × AH} (h : (
 aS (Value.cells x2).toList H fun b a =>
 (ay 4 b a).bind fun c =>
 gJ [(0, 1), (1, 1), (2, 4), (6, 1), (7, 1), (8, 1), (9, 1), (10, 1), (11, 1), (12, 1), (13, 1), (14, 1), (15, 1), (16, 1), (17, 4), (21, 1), (22, 1), (23, 1), (24, 1), (25, 1), (26, 3), (29, 1), (30, 4)] [(.pointer none), (vi 0), (vi 0), (vi 0), (vi 0), (vi 0), (vi 0), (vi 0), (vi 0), (vb false), (vi 0), (vw 0), (vw 0), (vw 0), (vw 0), (vw 0), (vi 0), (vi 0), (.slice none 0 0), (vi 0), (vw 0), (vi 0), (vi 0), (.slice none 0 0), (vw 0), (vw 0), (vi 0), (vi 0), (vi 0), (vb false), (vi 0), (.slice none 0 0), (vi 0), (vw 0)] [(0, x0), (1, x1), (2, c), (5, (vi (-1)))] fun d =>
 aS (Value.cells d).toList a fun e f =>
 some (e, f)) = some r) : FF j5 [x0, x1, x2] H = some r :=
 fo Tryz.func42 (by kernel_rfl) h
theorem Lq {r : Value × AH} (h : (
 aS (Value.cells x2).toList H fun b a =>
 (ay 4 b a).bind fun e =>
 ld [.n, .f 2] x0 a fun g =>
 ld [.f 1] b a fun i =>
 (FF ff [g, i] a).bind fun c =>
 bS (ay 4 b c.2) (ay 4 b a) <|
 gJ [(0, 1), (1, 1), (2, 4), (6, 1), (7, 1), (8, 1), (9, 1), (10, 1), (11, 1), (12, 1), (13, 1), (14, 1), (15, 1)] [(.pointer none), (vi 0), (vi 0), (vi 0), (vi 0), (vi 0), (vi 0), Value.nilFunc, (vi 0), (vi 0), (vb false), (.pointer none), (vw 0), (vw 0), (vi 0), (vw 0)] [(0, x0), (1, x1), (2, e), (3, c.1)] fun j =>
 aS (Value.cells j).toList c.2 fun d k =>
 st 1 [.n, .f 7] d (.func (.func mi) #[d] #[]) k fun l =>
 some (d, l)) = some r) : FF xp [x0, x1, x2] H = some r :=
 fo Tryz.func43 (by kernel_rfl) h
noncomputable def Ws (p : List Nat) : Code := Code.sub (bQ Tryz.f44) p
noncomputable def B1 : KK := eO PP (Tryz.f44).results.toList
noncomputable def Wt : KK := CQ (Ws [1, 1, 1]) B1 bP B1
noncomputable def CY : OV := Wt (ls [u, u, u, u, u, x5, x6, x7] 26) H
noncomputable def Wv : KK := CQ (Ws [1, 1, 1, 1]) B1 bP B1
noncomputable def t3 : OV := Wv (ls [u, u, u, u, u, u, x6, x7] 26) H
theorem Ap : av 17179869119 B1 := rf
theorem Wu : av 17179868959 Wt := rc Ap aE Ap
theorem Ww : av 17179868991 Wv := rc Ap aE Ap
theorem sW : t3 x6 x7 H =
 some (x7, H) :=
 (by kernel_rfl)
theorem D0 : CY x5 x6 x7 H =
 ld [.f 0] x5 H fun a =>
 (ak .other .eql a (vi 1)).bind fun b =>
 au b
 (st 1 [.n, .f 7] x7 (.func (.func fB) #[x7] #[]) H fun c =>
 t3 x6 x7 c)
 (t3 x6 x7 H) :=
 (pt rfl 0 Ww (by kernel_rfl))
noncomputable def abS : OV := bi PP GG FF (Ws []) (ls [x0, x1, x2] 31) H B1 bP B1
theorem MY {r : Value × AH} (h : (
 aS (Value.cells x2).toList H fun a b =>
 (ay 4 a b).bind fun e =>
 ld [.n, .f 2] x0 b fun g =>
 ld [.f 1] a b fun i =>
 (FF ff [g, i] b).bind fun c =>
 bS (ay 4 a c.2) (ay 4 a b) <|
 gJ [(0, 1), (1, 1), (2, 4), (6, 1), (7, 1), (8, 1), (9, 1), (10, 1), (11, 1), (12, 1), (13, 1), (14, 1), (15, 1), (16, 1)] [(.pointer none), (vi 0), (vi 0), (vi 0), (vi 0), (vi 0), (vi 0), Value.nilFunc, (vi 0), (vi 0), (vi 0), (vi 0), (.pointer none), (vw 0), (vw 0), (vi 0), (vi 0)] [(0, x0), (1, x1), (2, e), (3, c.1), (6, (vi (-1)))] fun j =>
 aS (Value.cells j).toList c.2 fun d k =>
 st 1 [.n, .f 7] d (.func (.func en) #[d] #[]) k fun l =>
 CY a (.pointer none) d l) = some r) : FF xr [x0, x1, x2] H = some r :=
 fo (t := abS x0 x1 x2 H) Tryz.func44 (by kernel_rfl) (Eq.trans (pt rfl 2 Wu (by kernel_rfl)) h)
theorem K9 {r : Value × AH} (h : (
 aS [(vi 0), (.slice none 0 0), (vi 0), (vw 0)] H fun b d =>
 ld [.n, .f 7] x0 d fun g =>
 (db g [x1]).bind fun c => (FF c.1 c.2 d).bind fun a =>
 (ag a.1 0).bind fun i =>
 (ag a.1 1).bind fun j =>
 (cB 4 b i a.2).bind fun e =>
 (ay 4 b e).bind fun k => some (Value.tuple #[k, j], e)) = some r) : FF xo [x0, x1] H = some r :=
 fo Tryz.func45 (by kernel_rfl) h
noncomputable def cI (p : List Nat) : Code := Code.sub (bQ Tryz.f46) p
noncomputable def gq : KK := eO PP (Tryz.f46).results.toList
noncomputable def Wx : KK := CQ (cI [1, 1, 1]) gq bP gq
noncomputable def MS : OV := Wx (ls [x0, x1, u, u, x4, x5, x6, x7] 297) H
noncomputable def Wz : KK := CQ (cI [1, 1, 1, 1]) gq bP gq
noncomputable def MT : OV := Wz (ls [x0, x1, u, u, x4, x5, x6, x7] 297) H
noncomputable def LZ : KK := CQ (cI [1, 1, 1, 1, 1]) gq bP gq
noncomputable def hU : KK := gY Q3 LZ
noncomputable def fG : OV := LZ (ls [u, u, u, u, x4] 300) H
noncomputable def WB : KK := CQ (cI [1, 1, 1, 1, 0, 1]) hU bP gq
noncomputable def o6 : OV := WB (ls [x0, x1, u, u, x4, x5, x6, x7, u, u, u, u, u, u, u, u, u, u, u, u, u, u, u, u, u, u, u, u, u, u, u, u, u, u, u, u, u, u, u, u, u, u, u, u, u, u, u, u, u, u, u, u, u, u, u, u, u, u, u, u, u, u, u, u, u, u, u, u, u, u, u, u, u, u, u, u, u, u, u, u, u, u, u, u, u, u, u, u, u, u, u, u, u, x93] 211) H
noncomputable def WG : KX := BX 0 hU bP
noncomputable def i6 : KX := wG Q3 WG
noncomputable def WD : KK := CQ (cI [1, 1, 1, 1, 0, 1, 4, 1]) hU i6 gq
noncomputable def MV : OV := WD (ls [x0, x1, u, u, x4, x5, x6, x7, u, u, u, u, u, u, u, u, u, u, u, u, u, u, u, u, u, u, u, u, u, u, u, u, u, u, u, u, u, u, u, u, u, u, u, u, u, u, u, u, u, u, u, u, u, u, u, u, u, u, u, u, u, u, u, u, u, u, u, u, u, u, u, u, u, u, u, u, u, u, u, u, u, u, u, u, u, u, u, u, u, u, u, u, u, x93, u, u, u, x97] 207) H
noncomputable def Pm : KK := CQ (cI [1, 1, 1, 1, 0, 1, 4, 1, 3, 1]) hU i6 gq
noncomputable def Qf : OV := Pm (ls [x0, x1, u, u, x4, x5, x6, x7, u, u, u, u, u, u, u, u, u, u, u, u, u, u, u, u, u, u, u, u, u, u, u, u, u, u, u, u, u, u, u, u, u, u, u, u, u, u, u, u, u, u, u, u, u, u, u, u, u, u, u, u, u, u, u, u, u, u, u, u, u, u, u, u, u, u, u, u, u, u, u, u, u, u, u, u, u, u, u, u, u, u, u, u, u, x93, u, u, u, u, u, u, u, u, u, u, u, u, u, u, u, u, u, u, x112] 192) H
noncomputable def Pn : KK := CQ (cI [1, 1, 1, 1, 0, 1, 4, 1, 3, 1, 3, 1]) hU i6 gq
noncomputable def Qg : OV := Pn (ls [x0, x1, u, u, x4, x5, x6, x7, u, u, u, u, u, u, u, u, u, u, u, u, u, u, u, u, u, u, u, u, u, u, u, u, u, u, u, u, u, u, u, u, u, u, u, u, u, u, u, u, u, u, u, u, u, u, u, u, u, u, u, u, u, u, u, u, u, u, u, u, u, u, u, u, u, u, u, u, u, u, u, u, u, u, u, u, u, u, u, u, u, u, u, u, u, x93, u, u, u, u, u, u, u, u, u, u, u, u, u, u, u, u, u, u, u, u, u, u, u, u, u, u, u, u, u, u, u, u, u, u, u, u, u, u, u, x133] 171) H
noncomputable def Po : KK := CQ (cI [1, 1, 1, 1, 0, 1, 4, 1, 3, 1, 3, 1, 3, 1]) hU i6 gq
noncomputable def Qh : OV := Po (ls [x0, x1, u, u, x4, x5, x6, x7, u, u, u, u, u, u, u, u, u, u, u, u, u, u, u, u, u, u, u, u, u, u, u, u, u, u, u, u, u, u, u, u, u, u, u, u, u, u, u, u, u, u, u, u, u, u, u, u, u, u, u, u, u, u, u, u, u, u, u, u, u, u, u, u, u, u, u, u, u, u, u, u, u, u, u, u, u, u, u, u, u, u, u, u, u, x93, u, u, u, u, u, u, u, u, u, u, u, u, u, u, u, u, u, u, u, u, u, u, u, u, u, u, u, u, u, u, u, u, u, u, u, u, u, u, u, u, u, u, u, u, u, u, u, u, u, u, u, u, u, u, u, u, u, x151] 153) H
noncomputable def Pp : KK := CQ (cI [1, 1, 1, 1, 0, 1, 4, 1, 3, 1, 3, 1, 3, 1, 3, 1]) hU i6 gq
noncomputable def HO : OV := Pp (ls [x0, x1, u, u, x4, x5, x6, x7, u, u, u, u, u, u, u, u, u, u, u, u, u, u, u, u, u, u, u, u, u, u, u, u, u, u, u, u, u, u, u, u, u, u, u, u, u, u, u, u, u, u, u, u, u, u, u, u, u, u, u, u, u, u, u, u, u, u, u, u, u, u, u, u, u, u, u, u, u, u, u, u, u, u, u, u, u, u, u, u, u, u, u, u, u, x93, u, u, u, u, u, u, u, u, u, u, u, u, u, u, u, u, u, u, u, u, u, u, u, u, u, u, u, u, u, u, u, u, u, u, u, u, u, u, u, u, u, u, u, u, u, u, u, u, u, u, u, u, u, u, u, u, u, u, u, u, u, u, u, u, u, u, u, u, u, u, u, u, u, u, u, u, u, x171] 133) H
noncomputable def Pq : KK := CQ (cI [1, 1, 1, 1, 0, 1, 4, 1, 3, 1, 3, 1, 3, 1, 3, 1, 3, 1]) hU i6 gq
noncomputable def Qi : OV := Pq (ls [x0, x1, u, u, x4, x5, x6, x7, u, u, u, u, u, u, u, u, u, u, u, u, u, u, u, u, u, u, u, u, u, u, u, u, u, u, u, u, u, u, u, u, u, u, u, u, u, u, u, u, u, u, u, u, u, u, u, u, u, u, u, u, u, u, u, u, u, u, u, u, u, u, u, u, u, u, u, u, u, u, u, u, u, u, u, u, u, u, u, u, u, u, u, u, u, x93, u, u, u, u, u, u, u, u, u, u, u, u, u, u, u, u, u, u, u, u, u, u, u, u, u, u, u, u, u, u, u, u, u, u, u, u, u, u, u, u, u, u, u, u, u, u, u, u, u, u, u, u, u, u, u, u, u, u, u, u, u, u, u, u, u, u, u, u, u, u, u, u, u, u, u, u, u, u, u, u, u, u, u, u, u, u, u, u, u, u, u, u, x186] 118) H
noncomputable def Pr : KK := CQ (cI [1, 1, 1, 1, 0, 1, 4, 1, 3, 1, 3, 1, 3, 1, 3, 1, 3, 1, 3, 1]) hU i6 gq
noncomputable def HP : OV := Pr (ls [x0, x1, u, u, x4, x5, x6, x7, u, u, u, u, u, u, u, u, u, u, u, u, u, u, u, u, u, u, u, u, u, u, u, u, u, u, u, u, u, u, u, u, u, u, u, u, u, u, u, u, u, u, u, u, u, u, u, u, u, u, u, u, u, u, u, u, u, u, u, u, u, u, u, u, u, u, u, u, u, u, u, u, u, u, u, u, u, u, u, u, u, u, u, u, u, x93, u, u, u, u, u, u, u, u, u, u, u, u, u, u, u, u, u, u, u, u, u, u, u, u, u, u, u, u, u, u, u, u, u, u, u, u, u, u, u, u, u, u, u, u, u, u, u, u, u, u, u, u, u, u, u, u, u, u, u, u, u, u, u, u, u, u, u, u, u, u, u, u, u, u, u, u, u, u, u, u, u, u, u, u, u, u, u, u, u, u, u, u, u, u, u, u, u, u, u, u, u, u, u, x197] 107) H
noncomputable def Ps : KK := CQ (cI [1, 1, 1, 1, 0, 1, 4, 1, 3, 1, 3, 1, 3, 1, 3, 1, 3, 1, 3, 1, 2, 1, 1]) hU i6 gq
noncomputable def Qj : OV := Ps (ls [x0, u, u, u, x4, u, u, u, u, u, u, u, u, x13] 291) H
noncomputable def aaZ : KX := BX 1 hU i6
noncomputable def Pu : KK := CQ (cI [1, 1, 1, 1, 0, 1, 4, 1, 3, 1, 3, 1, 3, 1, 3, 1, 3, 1, 3, 1, 3, 1]) hU i6 gq
noncomputable def HQ : OV := Pu (ls [x0, x1, u, u, x4, x5, x6, x7, u, u, u, u, u, u, u, u, u, u, u, u, u, u, u, u, u, u, u, u, u, u, u, u, u, u, u, u, u, u, u, u, u, u, u, u, u, u, u, u, u, u, u, u, u, u, u, u, u, u, u, u, u, u, u, u, u, u, u, u, u, u, u, u, u, u, u, u, u, u, u, u, u, u, u, u, u, u, u, u, u, u, u, u, u, x93, u, u, u, u, u, u, u, u, u, u, u, u, u, u, u, u, u, u, u, u, u, u, u, u, u, u, u, u, u, u, u, u, u, u, u, u, u, u, u, u, u, u, u, u, u, u, u, u, u, u, u, u, u, u, u, u, u, u, u, u, u, u, u, u, u, u, u, u, u, u, u, u, u, u, u, u, u, u, u, u, u, u, u, u, u, u, u, u, u, u, u, u, u, u, u, u, u, u, u, u, u, u, u, u, u, u, u, u, u, u, u, u, u, u, u, u, u, u, u, u, u, u, u, u, u, u, u, u, u, u, u, u, u, u, u, u, u, u, u, u, u, u, u, u, u, u, u, u, x242] 62) H
noncomputable def Pv : KK := CQ (cI [1, 1, 1, 1, 0, 1, 4, 1, 3, 1, 3, 1, 3, 1, 3, 1, 3, 1, 3, 1, 3, 1, 3, 1]) hU i6 gq
noncomputable def v7 : OV := Pv (ls [x0, x1, u, u, x4, x5, x6, x7, u, u, u, u, u, u, u, u, u, u, u, u, u, u, u, u, u, u, u, u, u, u, u, u, u, u, u, u, u, u, u, u, u, u, u, u, u, u, u, u, u, u, u, u, u, u, u, u, u, u, u, u, u, u, u, u, u, u, u, u, u, u, u, u, u, u, u, u, u, u, u, u, u, u, u, u, u, u, u, u, u, u, u, u, u, x93, u, u, u, u, u, u, u, u, u, u, u, u, u, u, u, u, u, u, u, u, u, u, u, u, u, u, u, u, u, u, u, u, u, u, u, u, u, u, u, u, u, u, u, u, u, u, u, u, u, u, u, u, u, u, u, u, u, u, u, u, u, u, u, u, u, u, u, u, u, u, u, u, u, u, u, u, u, u, u, u, u, u, u, u, u, u, u, u, u, u, u, u, u, u, u, u, u, u, u, u, u, u, u, u, u, u, u, u, u, u, u, u, u, u, u, u, u, u, u, u, u, u, u, u, u, u, u, u, u, u, u, u, u, u, u, u, u, u, u, u, u, u, u, u, u, u, u, u, u, u, u, u, u, u, x248] 56) H
noncomputable def Pw : KK := CQ (cI [1, 1, 1, 1, 0, 1, 4, 1, 3, 1, 3, 1, 3, 1, 3, 1, 3, 1, 3, 1, 3, 1, 3, 1, 3, 1]) hU i6 gq
noncomputable def HS : OV := Pw (ls [x0, x1, u, u, x4, x5, x6, u, u, u, u, u, u, u, u, u, u, u, u, u, u, u, u, u, u, u, u, u, u, u, u, u, u, u, u, u, u, u, u, u, u, u, u, u, u, u, u, u, u, u, u, u, u, u, u, u, u, u, u, u, u, u, u, u, u, u, u, u, u, u, u, u, u, u, u, u, u, u, u, u, u, u, u, u, u, u, u, u, u, u, u, u, u, x93, u, u, u, u, u, u, u, u, u, u, u, u, u, u, u, u, u, u, u, u, u, u, u, u, u, u, u, u, u, u, u, u, u, u, u, u, u, u, u, u, u, u, u, u, u, u, u, u, u, u, u, u, u, u, u, u, u, u, u, u, u, u, u, u, u, u, u, u, u, u, u, u, u, u, u, u, u, u, u, u, u, u, u, u, u, u, u, u, u, u, u, u, u, u, u, u, u, u, u, u, u, u, u, u, u, u, u, u, u, u, u, u, u, u, u, u, u, u, u, u, u, u, u, u, u, u, u, u, u, u, u, u, u, u, u, u, u, u, u, u, u, u, u, u, u, u, u, u, u, u, u, u, u, u, u, u, u, u, u, u, u, u, u, u, u, u, u, u, u, u, u, u, u, u, u, u, u, u, x272] 32) H
noncomputable def Px : KK := CQ (cI [1, 1, 1, 1, 0, 1, 4, 1, 3, 1, 3, 1, 3, 1, 3, 1, 3, 1, 3, 1, 3, 1, 3, 1, 3, 1, 3, 1]) hU i6 gq
noncomputable def Qk : OV := Px (ls [x0, x1, u, u, x4, x5, x6, u, u, u, u, u, u, u, u, u, u, u, u, u, u, u, u, u, u, u, u, u, u, u, u, u, u, u, u, u, u, u, u, u, u, u, u, u, u, u, u, u, u, u, u, u, u, u, u, u, u, u, u, u, u, u, u, u, u, u, u, u, u, u, u, u, u, u, u, u, u, u, u, u, u, u, u, u, u, u, u, u, u, u, u, u, u, x93, u, u, u, u, u, u, u, u, u, u, u, u, u, u, u, u, u, u, u, u, u, u, u, u, u, u, u, u, u, u, u, u, u, u, u, u, u, u, u, u, u, u, u, u, u, u, u, u, u, u, u, u, u, u, u, u, u, u, u, u, u, u, u, u, u, u, u, u, u, u, u, u, u, u, u, u, u, u, u, u, u, u, u, u, u, u, u, u, u, u, u, u, u, u, u, u, u, u, u, u, u, u, u, u, u, u, u, u, u, u, u, u, u, u, u, u, u, u, u, u, u, u, u, u, u, u, u, u, u, u, u, u, u, u, u, u, u, u, u, u, u, u, u, u, u, u, u, u, u, u, u, u, u, u, u, u, u, u, u, u, u, u, u, u, u, u, u, u, u, u, u, u, u, u, u, u, u, u, u, u, u, u, u, u, u, u, u, u, u, x283] 21) H
noncomputable def Py : KK := CQ (cI [1, 1, 1, 1, 0, 1, 4, 1, 3, 1, 3, 1, 3, 1, 3, 1, 3, 1, 3, 1, 3, 1, 3, 1, 3, 1, 3, 1, 3, 1]) hU i6 gq
noncomputable def lq : OV := Py (ls [x0, x1, u, u, x4, u, x6, u, u, u, u, u, u, u, u, u, u, u, u, u, u, u, u, u, u, u, u, u, u, u, u, u, u, u, u, u, u, u, u, u, u, u, u, u, u, u, u, u, u, u, u, u, u, u, u, u, u, u, u, u, u, u, u, u, u, u, u, u, u, u, u, u, u, u, u, u, u, u, u, u, u, u, u, u, u, u, u, u, u, u, u, u, u, u, u, u, u, u, u, u, u, u, u, u, u, u, u, u, u, u, u, u, u, u, u, u, u, u, u, u, u, u, u, u, u, u, u, u, u, u, u, u, u, u, u, u, u, u, u, u, u, u, u, u, u, u, u, u, u, u, u, u, u, u, u, u, u, u, u, u, u, u, u, u, u, u, u, u, u, u, u, u, u, u, u, u, u, u, u, u, u, u, u, u, u, u, u, u, u, u, u, u, u, u, u, u, u, u, u, u, u, u, u, u, u, u, u, u, u, u, u, u, u, u, u, u, u, u, u, u, u, u, u, u, u, u, u, u, u, u, u, u, u, u, u, u, u, u, u, u, u, u, u, u, u, u, u, u, u, u, u, u, u, u, u, u, u, u, u, u, u, u, u, u, u, u, u, u, u, u, u, u, u, u, u, u, u, u, u, u, u, u, u, u, u, u, u, u, u, u, u, u, u, u, u, u, u, x297] 7) H
theorem dv : av Q3 gq := rf
theorem Wy : av acT Wx := rc dv aE dv
theorem WA : av acT Wz := rc dv aE dv
theorem dn : av Q3 LZ := rc dv aE dv
theorem WC : av 65185151242703554760590262029100101153646988597309960020356494369436681278143732398675721996 WB := rc (cd dn) aE dv
theorem dT : ∀ i, av Q3 (WG i) := rb (cd dn) aE
theorem WE : av 65185151242703554760590262029100101153646988597309960020356494210980356249615057211587821324 WD := rc (cd dn) (cx dT) dv
theorem SA : av 65185151242703554760590262029100101153646988597309960020351302072578146450515201902346501900 Pm := rc (cd dn) (cx dT) dv
theorem SB : av 65185151242703554760590262029100101153646988597309949131320752899405850450156294582092955404 Pn := rc (cd dn) (cx dT) dv
theorem SC : av 65185151242703554760590262029100101153646988594455464634944574607320109339244742125910228748 Po := rc (cd dn) (cx dT) dv
theorem SD : av 65185151242703554760590262029100101153643995441956706331180013222899278330519477048827707148 Pp := rc (cd dn) (cx dT) dv
theorem SE : av 65185151242703554760590262029100101055567273981893073085422284631816893526544428578925182732 Pq := rc (cd dn) (cx dT) dv
theorem SF : av 65185151242703554760590262029099900286391456223525517275094951724111366002769509549571309324 Pr := rc (cd dn) (cx dT) dv
theorem SG : av 65185151242703554760590262029100101153646988597309960020356494379340201592426774597868707822 Ps := rc (cd dn) (cx dT) dv
theorem SN : ∀ i, av Q3 (aaZ i) := rb (cd dn) (cx dT)
theorem SH : av 65185151242703554753522873769986563835313798594338285957046558781934205445657307593505242892 Pu := rc (cd dn) (cx dT) dv
theorem SJ : av 65185151242703554308277413445833712780322828407122819968520616769278227999012544867765059340 Pv := rc (cd dn) (cx dT) dv
theorem SK : av 65185151235115004400333507845820953080117617868238058305309074364546789052601137534592876428 Pw := rc (cd dn) (cx dT) dv
theorem SL : av 65185135701352416954757694673404846565495735458055247603240324354937403366909450757007736716 Px := rc (cd dn) (cx dT) dv
theorem SM : av 64930521745661743999806706318048928883515555048101717989026976823170903929956357509595791276 Py := rc (cd dn) (cx dT) dv
theorem cn : fG x4 H =
 some ((vb false), H) :=
 (by kernel_rfl)
theorem MU : Qj x0 x4 x13 H =
 (FF bT [x0] H).bind fun a =>
 ad [.n, .f 11] x0 fun c =>
 (aq c a.2).bind fun e =>
 bS (aq c H) (aq c a.2) <|
 ad [.n, .f 12] x0 fun d =>
 (aq d a.2).bind fun g =>
 bS (aq d H) (aq d a.2) <|
 (FF iy [a.1, e, g] a.2).bind fun b =>
 au b.1
 (st 1 [.n, .f 6] x0 (vi 15) b.2 fun i =>
 fG x4 i)
 ((ak .other .eql x13 (vi 1)).bind fun j =>
 au j
 (st 1 [.n, .f 6] x0 (vi 9) b.2 fun k =>
 fG x4 k)
 (st 1 [.n, .f 6] x0 (vi 12) b.2 fun l =>
 fG x4 l)) :=
 (bt rfl (cI [1, 1, 1, 1, 0, 1, 4, 1, 3, 1, 3, 1, 3, 1, 3, 1, 3, 1, 3, 1, 2, 1, 1, 4]) 1 SN (by kernel_rfl))
theorem mC : lq x0 x1 x4 x6 x297 H =
 au x297
 ((FF adK [x0, x1] H).bind fun a =>
 some (a.1, a.2))
 ((FF XO [x0, x6] H).bind fun b =>
 some (b.1, b.2)) :=
 (by kernel_rfl)
theorem CV : Qk x0 x1 x4 x5 x6 x93 x283 H =
 au x283
 (ld [.n, .f 6] x5 H fun d =>
 ld [.n, .f 1] x0 H fun e =>
 (FF jg [d, e] H).bind fun g =>
 st 1 [.n, .f 6] x0 (vi 13) g.2 fun i =>
 fG x4 i)
 ((ak .other .eql x93 (vi 15)).bind fun a =>
 au a
 (lq x0 x1 x4 x6 a H)
 ((ak .other .eql x93 (vi 16)).bind fun b =>
 au b
 (lq x0 x1 x4 x6 b H)
 ((ak .other .eql x93 (vi 17)).bind fun c =>
 au c
 (lq x0 x1 x4 x6 c H)
 ((ak .other .eql x93 (vi 18)).bind fun j =>
 lq x0 x1 x4 x6 j H)))) :=
 (ct rfl (cI [1, 1, 1, 1, 0, 1, 4, 1, 3, 1, 3, 1, 3, 1, 3, 1, 3, 1, 3, 1, 3, 1, 3, 1, 3, 1, 3, 1, 2]) (cI [1, 1, 1, 1, 0, 1, 4, 1, 3, 1, 3, 1, 3, 1, 3, 1, 3, 1, 3, 1, 3, 1, 3, 1, 3, 1, 3, 1, 3]) (.tmp 283) (by kernel_rfl) (pt rfl 0 SM (by kernel_rfl)))
theorem tZ : HS x0 x1 x4 x5 x6 x93 x272 H =
 au x272
 ((FF bT [x0] H).bind fun a =>
 ad [.n, .f 1] x0 fun b =>
 (aq b a.2).bind fun d =>
 bS (aq b H) (aq b a.2) <|
 (FF fA [x0] a.2).bind fun c =>
 bS (aq b c.2) (aq b a.2) <|
 (FF iA [a.1, d, c.1] c.2).bind fun e =>
 some ((vb true), e.2))
 ((ak .other .eql x93 (vi 12)).bind fun g =>
 Qk x0 x1 x4 x5 x6 x93 g H) :=
 (ct rfl (cI [1, 1, 1, 1, 0, 1, 4, 1, 3, 1, 3, 1, 3, 1, 3, 1, 3, 1, 3, 1, 3, 1, 3, 1, 3, 1, 2]) (cI [1, 1, 1, 1, 0, 1, 4, 1, 3, 1, 3, 1, 3, 1, 3, 1, 3, 1, 3, 1, 3, 1, 3, 1, 3, 1, 3]) (.tmp 272) (by kernel_rfl) (pt rfl 0 SL (by kernel_rfl)))
theorem tY : v7 x0 x1 x4 x5 x6 x7 x93 x248 H =
 au x248
 ((FF bT [x0] H).bind fun a =>
 ad [.n, .f 1] x0 fun c =>
 (aq c a.2).bind fun e =>
 bS (aq c H) (aq c a.2) <|
 (FF fA [x0] a.2).bind fun b =>
 bS (aq c b.2) (aq c a.2) <|
 (ay 3 x7 b.2).bind fun g =>
 bS (ay 3 x7 H) (ay 3 x7 b.2) <|
 bS (ay 3 x7 a.2) (ay 3 x7 b.2) <|
 (FF mt [a.1, e, b.1, g] b.2).bind fun i =>
 st 1 [.n, .f 6] x0 (vi 11) i.2 fun d =>
 ld [.n, .f 13] x0 d fun j =>
 (ak .other .eql j (vw 1)).bind fun k =>
 au k
 (st 1 [.n, .f 6] x0 (vi 21) d fun l =>
 fG x4 l)
 (fG x4 d))
 ((ak .other .eql x93 (vi 11)).bind fun m =>
 HS x0 x1 x4 x5 x6 x93 m H) :=
 (ct rfl (cI [1, 1, 1, 1, 0, 1, 4, 1, 3, 1, 3, 1, 3, 1, 3, 1, 3, 1, 3, 1, 3, 1, 3, 1, 2]) (cI [1, 1, 1, 1, 0, 1, 4, 1, 3, 1, 3, 1, 3, 1, 3, 1, 3, 1, 3, 1, 3, 1, 3, 1, 3]) (.tmp 248) (by kernel_rfl) (pt rfl 0 SK (by kernel_rfl)))
theorem tX : HQ x0 x1 x4 x5 x6 x7 x93 x242 H =
 au x242
 ((FF jP [x0, x1] H).bind fun b =>
 fG x4 b.2)
 ((ak .other .eql x93 (vi 10)).bind fun a =>
 au a
 (v7 x0 x1 x4 x5 x6 x7 x93 a H)
 ((ak .other .eql x93 (vi 14)).bind fun c =>
 v7 x0 x1 x4 x5 x6 x7 x93 c H)) :=
 (ct rfl (cI [1, 1, 1, 1, 0, 1, 4, 1, 3, 1, 3, 1, 3, 1, 3, 1, 3, 1, 3, 1, 3, 1, 2]) (cI [1, 1, 1, 1, 0, 1, 4, 1, 3, 1, 3, 1, 3, 1, 3, 1, 3, 1, 3, 1, 3, 1, 3]) (.tmp 242) (by kernel_rfl) (pt rfl 0 SJ (by kernel_rfl)))
theorem o7 : HP x0 x1 x4 x5 x6 x7 x93 x197 H =
 au x197
 ((FF bT [x0] H).bind fun a =>
 ad [.n, .f 1] x0 fun c =>
 (aq c a.2).bind fun i =>
 bS (aq c H) (aq c a.2) <|
 (FF iz [a.1, i] a.2).bind fun d =>
 st 1 [.n, .f 12] x0 d.1 d.2 fun e =>
 ld [.n, .f 11] x0 e fun j =>
 (FF gu [j] e).bind fun b =>
 (ag b.1 0).bind fun m =>
 (ag b.1 1).bind fun k =>
 (ag b.1 2).bind fun o =>
 Qj x0 x4 k b.2)
 ((ak .other .eql x93 (vi 9)).bind fun g =>
 au g
 (HQ x0 x1 x4 x5 x6 x7 x93 g H)
 ((ak .other .eql x93 (vi 13)).bind fun l =>
 HQ x0 x1 x4 x5 x6 x7 x93 l H)) :=
 (ct rfl (cI [1, 1, 1, 1, 0, 1, 4, 1, 3, 1, 3, 1, 3, 1, 3, 1, 3, 1, 3, 1, 2]) (cI [1, 1, 1, 1, 0, 1, 4, 1, 3, 1, 3, 1, 3, 1, 3, 1, 3, 1, 3, 1, 3]) (.tmp 197) (pt rfl 1 SG (by kernel_rfl)) (pt rfl 0 SH (by kernel_rfl)))
theorem CU : Qi x0 x1 x4 x5 x6 x7 x93 x186 H =
 au x186
 (st 1 [.n, .f 6] x0 (vi 8) H fun b =>
 (FF ej [x0] b).bind fun a =>
 (ak .other .eql a.1 (vi 2)).bind fun c =>
 au c
 (st 1 [.n, .f 6] x0 (vi 3) a.2 fun d =>
 fG x4 d)
 (fG x4 a.2))
 ((ak .other .eql x93 (vi 8)).bind fun e =>
 HP x0 x1 x4 x5 x6 x7 x93 e H) :=
 (ct rfl (cI [1, 1, 1, 1, 0, 1, 4, 1, 3, 1, 3, 1, 3, 1, 3, 1, 3, 1, 2]) (cI [1, 1, 1, 1, 0, 1, 4, 1, 3, 1, 3, 1, 3, 1, 3, 1, 3, 1, 3]) (.tmp 186) (by kernel_rfl) (pt rfl 0 SF (by kernel_rfl)))
theorem tW : HO x0 x1 x4 x5 x6 x7 x93 x171 H =
 au x171
 (ld [.n, .f 1] x0 H fun a =>
 ld [.n, .f 10] x0 H fun b =>
 (FF kL [x5, a, b] H).bind fun c =>
 st 1 [.n, .f 6] x0 (vi 7) c.2 fun d =>
 fG x4 d)
 ((ak .other .eql x93 (vi 7)).bind fun e =>
 Qi x0 x1 x4 x5 x6 x7 x93 e H) :=
 (ct rfl (cI [1, 1, 1, 1, 0, 1, 4, 1, 3, 1, 3, 1, 3, 1, 3, 1, 2]) (cI [1, 1, 1, 1, 0, 1, 4, 1, 3, 1, 3, 1, 3, 1, 3, 1, 3]) (.tmp 171) (by kernel_rfl) (pt rfl 0 SE (by kernel_rfl)))
theorem CT : Qh x0 x1 x4 x5 x6 x7 x93 x151 H =
 au x151
 (ld [.n, .f 7] x5 H fun b =>
 ld [.n, .f 1] x0 H fun c =>
 (FF dY [b, c, x6] H).bind fun a =>
 ld [.n, .f 9] x0 a.2 fun d =>
 (oW .not d).bind fun e =>
 au e
 (some ((vb true), a.2))
 (st 1 [.n, .f 6] x0 (vi 6) a.2 fun g =>
 fG x4 g))
 ((ak .other .eql x93 (vi 6)).bind fun i =>
 HO x0 x1 x4 x5 x6 x7 x93 i H) :=
 (ct rfl (cI [1, 1, 1, 1, 0, 1, 4, 1, 3, 1, 3, 1, 3, 1, 2]) (cI [1, 1, 1, 1, 0, 1, 4, 1, 3, 1, 3, 1, 3, 1, 3]) (.tmp 151) (by kernel_rfl) (pt rfl 0 SD (by kernel_rfl)))
theorem tV : Qg x0 x1 x4 x5 x6 x7 x93 x133 H =
 au x133
 ((FF Cx [x0] H).bind fun a =>
 (ag a.1 0).bind fun b =>
 (ag a.1 1).bind fun c =>
 au b
 (st 1 [.n, .f 6] x0 (vi 5) a.2 fun d =>
 fG x4 d)
 (au c
 ((FF bC [x0, x1, (vi 5)] a.2).bind fun e =>
 st 1 [.n, .f 6] x0 (vi 5) e.2 fun g =>
 fG x4 g)
 (fG x4 a.2)))
 ((ak .other .eql x93 (vi 5)).bind fun i =>
 Qh x0 x1 x4 x5 x6 x7 x93 i H) :=
 (ct rfl (cI [1, 1, 1, 1, 0, 1, 4, 1, 3, 1, 3, 1, 2]) (cI [1, 1, 1, 1, 0, 1, 4, 1, 3, 1, 3, 1, 3]) (.tmp 133) (by kernel_rfl) (pt rfl 0 SC (by kernel_rfl)))
theorem o5 : Qf x0 x1 x4 x5 x6 x7 x93 x112 H =
 au x112
 (ld [.n, .f 7] x5 H fun b =>
 ld [.n, .f 1] x0 H fun c =>
 (FF gO [b, c, x6] H).bind fun a =>
 au a.1
 (st 1 [.n, .f 6] x0 (vi 4) a.2 fun d =>
 st 1 [.n, .f 7] x0 (vi 0) d fun e =>
 st 1 [.n, .f 9] x0 (vb false) e fun g =>
 fG x4 g)
 (fG x4 a.2))
 ((ak .other .eql x93 (vi 4)).bind fun i =>
 Qg x0 x1 x4 x5 x6 x7 x93 i H) :=
 (ct rfl (cI [1, 1, 1, 1, 0, 1, 4, 1, 3, 1, 2]) (cI [1, 1, 1, 1, 0, 1, 4, 1, 3, 1, 3]) (.tmp 112) (by kernel_rfl) (pt rfl 0 SB (by kernel_rfl)))
theorem ox : MV x0 x1 x4 x5 x6 x7 x93 x97 H =
 au x97
 ((FF Cx [x0] H).bind fun a =>
 (ag a.1 0).bind fun b =>
 (ag a.1 1).bind fun c =>
 au b
 (st 1 [.n, .f 6] x0 (vi 6) a.2 fun d =>
 fG x4 d)
 (au c
 (st 1 [.n, .f 6] x0 (vi 3) a.2 fun e =>
 fG x4 e)
 (fG x4 a.2)))
 ((ak .other .eql x93 (vi 3)).bind fun g =>
 Qf x0 x1 x4 x5 x6 x7 x93 g H) :=
 (ct rfl (cI [1, 1, 1, 1, 0, 1, 4, 1, 2]) (cI [1, 1, 1, 1, 0, 1, 4, 1, 3]) (.tmp 97) (by kernel_rfl) (pt rfl 0 SA (by kernel_rfl)))
theorem lL : o6 x0 x1 x4 x5 x6 x7 x93 H =
 (ak .other .eql x93 (vi 2)).bind fun a =>
 MV x0 x1 x4 x5 x6 x7 x93 a H :=
 (bt rfl (cI [1, 1, 1, 1, 0, 1, 4]) 0 dT (pt rfl 0 WE (by kernel_rfl)))
theorem Fa : MT x0 x1 x4 x5 x6 x7 H =
 ld [.n, .f 6] x0 H fun a =>
 o6 x0 x1 x4 x5 x6 x7 a H :=
 (pt rfl 0 dn (pt rfl 0 WC (by kernel_rfl)))
theorem E9 : MS x0 x1 x4 x5 x6 x7 H =
 ld [.n, .f 6] x0 H fun c =>
 (ak .other .eql c (vi 0)).bind fun d =>
 au d
 (ld [.n, .f 2, .f 2] x0 H fun e =>
 (ak .other .lss e (vi 1)).bind fun a =>
 (gV a false x0).bind fun g =>
 fI a false  [.n, .f 2, .f 2] g H fun i =>
 (gB a false (ak .other .gtr i (vi 65536))).bind fun j =>
 (aM a (vb true) j).bind fun k =>
 au k
 ((FF bC [x0, x1, (vi 3)] H).bind fun l =>
 some ((vb true), l.2))
 (ld [.n, .f 2, .f 1] x0 H fun m =>
 (ak .other .lss m (vi 0)).bind fun b =>
 (gV b false x0).bind fun o =>
 fI b false  [.n, .f 2, .f 1] o H fun p =>
 (gB b false (ak .other .gtr p (vi 1048576))).bind fun q =>
 (aM b (vb true) q).bind fun s =>
 au s
 ((FF bC [x0, x1, (vi 5)] H).bind fun t =>
 some ((vb true), t.2))
 (st 1 [.n, .f 6] x0 (vi 2) H fun w =>
 MT x0 x1 x4 x5 x6 x7 w)))
 (MT x0 x1 x4 x5 x6 x7 H) :=
 (pt rfl 0 WA (by kernel_rfl))
noncomputable def rTE : OV := bi PP GG FF (cI []) (ls [x0, x1] 303) H gq bP gq
theorem ae4 {r : Value × AH} (h : (
 ad [.n, .f 0] x0 fun b =>
 (aq b H).bind fun d =>
 ld [.n, .f 0] x0 H fun e =>
 ld [.n, .f 7] e H fun g =>
 ld [.n, .f 2, .f 1] x0 H fun i =>
 (FF eG [g, i] H).bind fun a =>
 bS (aq b a.2) (aq b H) <|
 ld [.n, .f 2, .f 1] x0 a.2 fun j =>
 ld [.n, .f 2, .f 2] x0 a.2 fun k =>
 ld [.n, .f 2, .f 3] x0 a.2 fun l =>
 gJ [(0, 1), (1, 1), (2, 1)] [(vi 0), (vi 0), (vi 0)] [(0, j), (1, k), (2, l)] fun m =>
 aS [(vi 0), (vi 0), (vi 0)] a.2 fun c o =>
 (cB 3 c m o).bind fun p =>
 MS x0 x1 (vb false) d a.1 c p) = some r) : FF eH [x0, x1] H = some r :=
 fo (t := rTE x0 x1 H) Tryz.func46 (by kernel_rfl) (Eq.trans (pt rfl 2 Wy (by kernel_rfl)) h)
theorem zZ {r : Value × AH} (h : (
 aS [(vi 0), (.slice none 0 0), (vi 0), (vw 0)] H fun b d =>
 ld [.n, .f 7] x0 d fun g =>
 (db g [x1]).bind fun c => (FF c.1 c.2 d).bind fun a =>
 (ag a.1 0).bind fun i =>
 (ag a.1 1).bind fun j =>
 (cB 4 b i a.2).bind fun e =>
 (ay 4 b e).bind fun k => some (Value.tuple #[k, j], e)) = some r) : FF mu [x0, x1] H = some r :=
 fo Tryz.func47 (by kernel_rfl) h
end
section
variable (Y Z x2 x3 x4 x5 x6 x7 x8 x13 x30 x114 : Value) (H : AH)
noncomputable def md (p : List Nat) : Code := Code.sub (bQ Tryz.f48) p
noncomputable def mO : KK := eO PP (Tryz.f48).results.toList
noncomputable def WH : KK := CQ (md [1, 1]) mO bP mO
noncomputable def kO : OV := WH (ls [Y, Z, u, u, x4, x5, x6] 141) H
noncomputable def L3 : KK := CQ (md [1, 1, 1]) mO bP mO
noncomputable def L0 : KK := gY US L3
noncomputable def f2 : OV := L3 (ls [Y, Z, u, u, x4, x5, x6] 141) H
noncomputable def L4 : KK := CQ (md [1, 1, 1, 1]) mO bP mO
noncomputable def L1 : KK := gY UW L4
noncomputable def pG : OV := L4 (ls [Y, Z, u, u, x4, u, x6] 141) H
noncomputable def WN : KX := BX 1 L1 bP
noncomputable def WO : KX := wG UW WN
noncomputable def WJ : KK := CQ (md [1, 1, 1, 0, 4, 1]) L1 WO mO
noncomputable def pH : OV := WJ (ls [Y, Z, u, u, x4, x5, x6, u, u, u, u, u, u, u, u, u, u, u, u, u, u, u, u, u, u, u, u, u, u, u, u, u, u, u, u, u, u, u, u, u, u, u, u, u, u, u, u, u, u, u, u, u, u, u, u, u, u, u, u, u, u, u, u, u, u, u, u, u, u, u, u, u, u, u, u, u, u, u, u, u, u, u, u, u, u, u, u, u, u, u, u, u, u, u, u, u, u, u, u, u, u, u, u, u, u, u, u, u, u, u, u, u, u, u, x114] 33) H
noncomputable def WL : KK := CQ (md [1, 1, 1, 0, 4, 1, 2, 1]) L1 WO mO
noncomputable def kP : OV := WL (ls [Y, Z, u, u, x4, u, x6] 141) H
noncomputable def Pz : KK := CQ (md [1, 1, 0, 1]) L0 bP mO
noncomputable def oq : OV := Pz (ls [Y, Z, u, u, x4, x5, x6, u, u, u, u, u, u, u, u, u, u, u, u, u, u, u, u, u, u, u, u, u, u, u, x30] 117) H
noncomputable def PA : KK := CQ (md [1, 1, 0, 1, 2, 1, 1]) L0 bP mO
noncomputable def gU : OV := PA (ls [Y, Z, u, u, x4, x5, x6, x7, x8] 139) H
noncomputable def GY : KK := CQ (md [1, 1, 0, 1, 2, 1, 1, 1]) L0 bP mO
noncomputable def aa0 : KK := gY UT GY
noncomputable def cL : OV := GY (ls [Y, Z, u, u, x4, x5, x6, x7] 140) H
noncomputable def aa1 : KX := BX 0 aa0 bP
theorem i7 : av 356811923176489970264571492362373784095686639 mO := rf
theorem WI : av US WH := rc i7 aE i7
theorem uT : av US L3 := rc i7 aE i7
theorem uU : av UW L4 := rc i7 aE i7
theorem B2 : ∀ i, av UW (WN i) := rb (cd uU) aE
theorem WK : av 356811923155720782830432181848251798778806156 WJ := rc (cd uU) (cx B2) i7
theorem WM : av UW WL := rc (cd uU) (cx B2) i7
theorem SO : av 356811923176489970264571492362373783021944716 Pz := rc (cd uT) aE i7
theorem SQ : av 356811923176489970264571492362373784095686156 PA := rc (cd uT) aE i7
theorem EJ : av UT GY := rc (cd uT) aE i7
theorem SR : ∀ i, av UT (aa1 i) := rb (cd EJ) aE
theorem tT : pG Y Z x4 x6 H =
 (FF pz [Y, Z, x6] H).bind fun a =>
 some (a.1, a.2) :=
 (by kernel_rfl)
theorem mB : kP Y Z x4 x6 H =
 some ((vb false), H) :=
 (by kernel_rfl)
theorem iM : pH Y Z x4 x5 x6 x114 H =
 au x114
 (ld [.n, .f 7] x5 H fun c =>
 ld [.n, .f 1] Y H fun d =>
 (FF gO [c, d, x6] H).bind fun a =>
 au a.1
 (st 1 [.n, .f 6] Y (vi 3) a.2 fun e =>
 kP Y Z x4 x6 e)
 (kP Y Z x4 x6 a.2))
 (ld [.n, .f 2, .f 0] Y H fun g =>
 (ak .other .eql g (vi 1)).bind fun i =>
 au i
 ((FF kV [Y, Z, x6] H).bind fun b =>
 some (b.1, b.2))
 (pG Y Z x4 x6 H)) :=
 (ct rfl (md [1, 1, 1, 0, 4, 1, 2]) (md [1, 1, 1, 0, 4, 1, 3]) (.tmp 114) (pt rfl 0 WM (by kernel_rfl)) (by kernel_rfl))
theorem iL : f2 Y Z x4 x5 x6 H =
 ld [.n, .f 6] Y H fun a =>
 (ak .other .eql a (vi 2)).bind fun b =>
 pH Y Z x4 x5 x6 b H :=
 (pt rfl 0 uU (bt rfl (md [1, 1, 1, 0, 4]) 1 B2 (pt rfl 0 WK (by kernel_rfl))))
theorem k7 : cL Y Z x4 x5 x6 x7 H =
 (ak .other .neq x7 (vi 0)).bind fun a =>
 au a
 ((FF bC [Y, Z, x7] H).bind fun b =>
 some ((vb true), b.2))
 (st 1 [.n, .f 6] Y (vi 2) H fun c =>
 f2 Y Z x4 x5 x6 c) :=
 (by kernel_rfl)
theorem kZ : gU Y Z x4 x5 x6 x7 x8 H =
 ld [.n, .f 2, .f 0] Y H fun g =>
 (ak .other .neq g (vi 1)).bind fun e =>
 (gV e true x8).bind fun i =>
 (gB e true (oW .not i)).bind fun j =>
 (aM e j (vb false)).bind fun k =>
 au k
 (cL Y Z x4 x5 x6 (vi 5) H)
 ((oW .not x8).bind fun l =>
 au l
 (cL Y Z x4 x5 x6 (vi 1) H)
 (ld [.n, .f 2, .f 0] Y H fun m =>
 (ak .other .eql m (vi 1)).bind fun a =>
 (gV a true Y).bind fun o =>
 fI a true  [.n, .f 2, .f 2] o H fun p =>
 (gB a true (ak .other .lss p (vi 1))).bind fun q =>
 (gV a true q).bind fun c =>
 (gV c false Y).bind fun s =>
 fI c false  [.n, .f 2, .f 2] s H fun t =>
 (gB c false (ak .other .gtr t (vi 65536))).bind fun w =>
 (gB a true (aM c (vb true) w)).bind fun y =>
 (aM a y (vb false)).bind fun z =>
 au z
 (cL Y Z x4 x5 x6 (vi 4) H)
 (ld [.n, .f 2, .f 0] Y H fun A =>
 (ak .other .eql A (vi 1)).bind fun b =>
 (gV b true Y).bind fun B =>
 fI b true  [.n, .f 2, .f 3] B H fun C =>
 (gB b true (ak .other .lss C (vi 1))).bind fun D =>
 (gV b true D).bind fun d =>
 (gV d false Y).bind fun E =>
 fI d false  [.n, .f 2, .f 3] E H fun G =>
 (gB d false (ak .other .gtr G (vi 8))).bind fun I =>
 (gB b true (aM d (vb true) I)).bind fun J =>
 (aM b J (vb false)).bind fun K =>
 au K
 (cL Y Z x4 x5 x6 (vi 1) H)
 (cL Y Z x4 x5 x6 x7 H)))) :=
 (pt rfl 0 EJ (bt rfl (md [1, 1, 0, 1, 2, 1, 1, 0, 4]) 0 SR (by kernel_rfl)))
theorem kY : oq Y Z x4 x5 x6 x30 H =
 au x30
 (ld [.n, .f 2, .f 1] Y H fun b =>
 (ak .other .geq b (vi 0)).bind fun a =>
 (gV a true Y).bind fun c =>
 fI a true  [.n, .f 2, .f 1] c H fun d =>
 (gB a true (ak .other .leq d (vi 1048576))).bind fun e =>
 (aM a e (vb false)).bind fun g =>
 gU Y Z x4 x5 x6 (vi 0) g H)
 (f2 Y Z x4 x5 x6 H) :=
 (ct rfl (md [1, 1, 0, 1, 2]) (md [1, 1, 0, 1, 3]) (.tmp 30) (pt rfl 1 SQ (by kernel_rfl)) (by kernel_rfl))
theorem mA : kO Y Z x4 x5 x6 H =
 ld [.n, .f 6] Y H fun a =>
 (ak .other .eql a (vi 0)).bind fun b =>
 oq Y Z x4 x5 x6 b H :=
 (pt rfl 0 uT (pt rfl 0 SO (by kernel_rfl)))
noncomputable def HG : OV := bi PP GG FF (md []) (ls [Y, Z] 146) H mO bP mO
theorem zX {r : Value × AH} (h : (
 ad [.n, .f 0] Y fun a =>
 (aq a H).bind fun c =>
 ld [.n, .f 0] Y H fun d =>
 ld [.n, .f 7] d H fun e =>
 ld [.n, .f 2, .f 1] Y H fun g =>
 (FF eG [e, g] H).bind fun b =>
 bS (aq a b.2) (aq a H) <|
 kO Y Z (vb false) c b.1 b.2) = some r) : FF bj [Y, Z] H = some r :=
 fo (t := HG Y Z H) Tryz.func48 (by kernel_rfl) (Eq.trans (pt rfl 1 WI (by kernel_rfl)) h)
theorem Jq {r : Value × AH} (h : (
 aS (Value.cells Y).toList H fun b j =>
 aS (Value.cells Z).toList j fun c a =>
 ld [.f 0] b a fun k =>
 ld [.f 0] c a fun l =>
 (ak .other .eql k l).bind fun d =>
 fI d true  [.f 2] b a fun m =>
 fI d true  [.f 2] c a fun n =>
 (gB d true (ak .other .eql m n)).bind fun o =>
 (aM d o (vb false)).bind fun e =>
 fI e true  [.f 3] b a fun p =>
 fI e true  [.f 3] c a fun q =>
 (gB e true (ak .other .eql p q)).bind fun s =>
 (aM e s (vb false)).bind fun g =>
 fI g true  [.f 1] b a fun t =>
 fI g true  [.f 1] c a fun w =>
 (gE g true a (FF fP [t, w] a)).bind fun i =>
 (aM g i.1 (vb false)).bind fun y =>
 some (y, i.2)) = some r) : FF tw [Y, Z] H = some r :=
 fo Tryz.func49 (by kernel_rfl) h
theorem Ju {r : Value × AH} (h : (
 aS [(vi 0), (.slice none 0 0), (vi 0), (vw 0)] H fun a b =>
 au Z
 (ldN 4 [.n, .f 17] Y b fun e =>
 (cB 4 a e b).bind fun c =>
 (ay 4 a c).bind fun g => some (g, c))
 (gJ [(0, 1), (1, 1), (2, 1), (3, 1)] [(vi 0), (.slice none 0 0), (vi 0), (vw 0)] [] fun i =>
 (cB 4 a i b).bind fun d =>
 (ay 4 a d).bind fun j => some (j, d))) = some r) : FF oT [Y, Z] H = some r :=
 fo Tryz.func50 (by kernel_rfl) h
theorem Cv {r : Value × AH} (h : (
 ld [.n, .f 1] Y H fun a =>
 gI a fun b =>
 some (b, H)) = some r) : FF j3 [Y] H = some r :=
 fo Tryz.func51 (by kernel_rfl) h
theorem sw {r : Value × AH} (h : (
 (ak .other .geq Z (vi 0)).bind fun a =>
 (gV a true Z).bind fun b =>
 (gV a true Y).bind fun c =>
 fI a true  [.n, .f 10] c H fun d =>
 (xu (yv a) true (gI d some) (some undef)).bind fun e =>
 (gB a true (ak .other .lss b e)).bind fun g =>
 (aM a g (vb false)).bind fun i =>
 some (i, H)) = some r) : FF fR [Y, Z] H = some r :=
 fo Tryz.func52 (by kernel_rfl) h
theorem zv {r : Value × AH} (h : (
 aS (Value.cells x2).toList H fun a b =>
 (ay 3 a b).bind fun e =>
 (FF dq [Y, Z, (vi 1), e] b).bind fun c =>
 (ay 3 a c.2).bind fun f =>
 (FF fu [Y, f] c.2).bind fun d =>
 some (d.1, d.2)) = some r) : FF dp [Y, Z, x2] H = some r :=
 fo Tryz.func53 (by kernel_rfl) h
theorem z7 {r : Value × AH} (h : (
 aS [(vi 0), (vi 0), (vi 0)] H fun a b =>
 ld [.n, .f 1] Y b fun d =>
 gJ [(0, 1), (1, 1), (2, 1)] [(vi 0), (vi 0), (vi 0)] [(0, Z), (1, d), (2, x2)] fun e =>
 (cB 3 a e b).bind fun c =>
 (ay 3 a c).bind fun g => some (g, c)) = some r) : FF dZ [Y, Z, x2] H = some r :=
 fo Tryz.func54 (by kernel_rfl) h
theorem nk {r : Value × AH} (h : (
 ld [.n, .f 2] Y H fun a =>
 gI a fun b =>
 (cF (some .u64) b).bind fun c =>
 (ak .other .rem Z c).bind fun d =>
 (cF (some .i64) d).bind fun e =>
 some (e, H)) = some r) : FF di [Y, Z] H = some r :=
 fo Tryz.func55 (by kernel_rfl) h
theorem zx {r : Value × AH} (h : (
 aS (Value.cells x2).toList H fun b a =>
 (ay 3 b a).bind fun c =>
 (FF dq [Y, Z, (vi 5), c] a).bind fun d =>
 some (Value.tuple #[], d.2)) = some r) : FF ml [Y, Z, x2] H = some r :=
 fo Tryz.func56 (by kernel_rfl) h
theorem Hu {r : Value × AH} (h : (
 aS (Value.cells Y).toList H fun a i =>
 aS [(vi 0), (.slice none 0 0), (vi 0), (vw 0)] i fun b c =>
 ld [.f 1] a c fun j =>
 (FF XP [j] c).bind fun d =>
 st 1 [.f 1] a d.1 d.2 fun e =>
 (ay 4 a e).bind fun k =>
 (cB 4 b k e).bind fun g =>
 (ay 4 b g).bind fun l => some (l, g)) = some r) : FF qF [Y] H = some r :=
 fo Tryz.func60 (by kernel_rfl) h
theorem D9 {r : Value × AH} (h : (
 aS [(vi 0), (vi 0), (vi 0)] H fun a c =>
 gJ [(0, 1), (1, 1), (2, 1)] [(vi 0), (vi 0), (vi 0)] [(0, (vi 10)), (1, Y), (2, Z)] fun d =>
 (cB 3 a d c).bind fun b =>
 (ay 3 a b).bind fun e => some (e, b)) = some r) : FF jj [Y, Z] H = some r :=
 fo Tryz.func61 (by kernel_rfl) h
theorem zy {r : Value × AH} (h : (
 aS (Value.cells x2).toList H fun b c =>
 (ay 3 b c).bind fun d =>
 (FF fu [Y, d] c).bind fun a =>
 (ak .other .neq a.1 x3).bind fun e =>
 au e
 ((ay 3 b a.2).bind fun f =>
 (FF dq [Y, Z, (vi 4), f] a.2).bind fun g =>
 some ((vb false), g.2))
 ((ay 3 b a.2).bind fun i =>
 (FF je [Y, Z, i, x4] a.2).bind fun j =>
 some ((vb true), j.2))) = some r) : FF fv [Y, Z, x2, x3, x4] H = some r :=
 fo Tryz.func62 (by kernel_rfl) h
theorem Dl {r : Value × AH} (h : (
 aS [(vi 0), (vi 0), (vi 0)] H fun a c =>
 gJ [(0, 1), (1, 1), (2, 1)] [(vi 0), (vi 0), (vi 0)] [(0, (vi 8)), (1, Y)] fun d =>
 (cB 3 a d c).bind fun b =>
 (ay 3 a b).bind fun e => some (e, b)) = some r) : FF j8 [Y] H = some r :=
 fo Tryz.func63 (by kernel_rfl) h
theorem Cw {r : Value × AH} (h : (
 aS (Value.cells Y).toList H fun a l =>
 ld [.f 0] a l fun m =>
 (FF fw [m, (vi 1), (vi 4)] l).bind fun b =>
 fI b.1 true  [.f 1] a b.2 fun n =>
 (gE b.1 true b.2 (FF fw [n, (vi 1), (vi 4)] b.2)).bind fun c =>
 (aM b.1 c.1 (vb false)).bind fun g =>
 fI g true  [.f 2] a c.2 fun o =>
 (gE g true c.2 (FF fw [o, (vi 1), (vi 6)] c.2)).bind fun d =>
 (aM g d.1 (vb false)).bind fun i =>
 fI i true  [.f 3] a d.2 fun p =>
 (gE i true d.2 (FF fw [p, (vi 0), (vi 40)] d.2)).bind fun e =>
 (aM i e.1 (vb false)).bind fun j =>
 fI j true  [.f 4] a e.2 fun q =>
 (gB j true (ak .other .geq q (vw 1))).bind fun s =>
 (aM j s (vb false)).bind fun k =>
 fI k true  [.f 4] a e.2 fun t =>
 (gB k true (ak .other .leq t (vw 4611686018427387904))).bind fun w =>
 (aM k w (vb false)).bind fun y =>
 some (y, e.2)) = some r) : FF nE [Y] H = some r :=
 fo Tryz.func64 (by kernel_rfl) h
theorem Mh (H : AH) {r : Value × AH} (h : (
 DT H fun a b =>
 gJ [(0, 1), (1, 1)] [(.map none), (.slice none 0 0)] [(0, a)] fun c =>
 aS (Value.cells c).toList b fun d e =>
 some (d, e)) = some r) : FF xq [] H = some r :=
 fo Tryz.func65 (by kernel_rfl) h
theorem G6 {r : Value × AH} (h : (
 (ir [Z, (vi 1)]).bind fun a =>
 (jz [a, (vi 4)]).bind fun b =>
 DT H fun c d =>
 gJ [(0, 1), (1, 1), (2, 1), (3, 1), (4, 1)] [(.pointer none), (vi 0), (.map none), Value.nilFunc, Value.nilFunc] [(0, Y), (1, b), (2, c), (3, (.func (.func bB) #[(vi 9)] #[])), (4, (.func (.func bB) #[(vi 14)] #[]))] fun e =>
 aS (Value.cells e).toList d fun f g =>
 some (f, g)) = some r) : FF qB [Y, Z] H = some r :=
 fo Tryz.func66 (by kernel_rfl) h
theorem Ih {r : Value × AH} (h : (
 (ir [Z, (vi 1)]).bind fun a =>
 (jz [a, (vi 4)]).bind fun b =>
 (ir [x2, (vi 1)]).bind fun c =>
 (jz [c, (vi 4)]).bind fun d =>
 gJ [(0, 1), (1, 1), (2, 1)] [(.pointer none), (vi 0), (vi 0)] [(0, Y), (1, b), (2, d)] fun e =>
 aS (Value.cells e).toList H fun f g =>
 some (f, g)) = some r) : FF qK [Y, Z, x2] H = some r :=
 fo Tryz.func67 (by kernel_rfl) h
theorem JN {r : Value × AH} (h : (
 (ir [Z, (vi 1)]).bind fun a =>
 (jz [a, (vi 6)]).bind fun b =>
 DT H fun c d =>
 DT d fun e f =>
 gJ [(0, 1), (1, 1), (2, 1), (3, 1)] [(.pointer none), (vi 0), (.map none), (.map none)] [(0, Y), (1, b), (2, c), (3, e)] fun g =>
 aS (Value.cells g).toList f fun i j =>
 some (i, j)) = some r) : FF tB [Y, Z] H = some r :=
 fo Tryz.func68 (by kernel_rfl) h
theorem IT {r : Value × AH} (h : (
 aS (Value.cells Y).toList H fun c b =>
 ld [.f 0] c b fun d =>
 ld [.f 3] c b fun e =>
 (FF qH [d, e] b).bind fun a =>
 DT a.2 fun g i =>
 DT i fun j k =>
 gJ [(0, 1), (1, 1), (2, 1), (3, 1), (4, 1), (5, 1), (6, 1), (7, 1), (8, 3)] [Value.nilFunc, Value.nilFunc, Value.nilFunc, (vw 0), (vw 0), (vi 0), (.map none), (.map none), (vb false), (vi 0), (vw 0)] [(0, (.func (.func tC) #[a.1] #[])), (1, (.func (.func vA) #[a.1] #[])), (2, (.func (.func vz) #[a.1] #[])), (6, g), (7, j)] fun l =>
 aS (Value.cells l).toList k fun m n =>
 some (m, n)) = some r) : FF tu [Y] H = some r :=
 fo Tryz.func69 (by kernel_rfl) h
theorem zQ {r : Value × AH} (h : (
 (ir [Z, (vi 1)]).bind fun a =>
 (jz [a, (vi 4)]).bind fun b =>
 gJ [(0, 1), (1, 1), (2, 1), (3, 1)] [(.pointer none), (vi 0), (.slice none 0 0), (.slice none 0 0)] [(0, Y), (1, b)] fun c =>
 aS (Value.cells c).toList H fun d e =>
 some (d, e)) = some r) : FF mp [Y, Z] H = some r :=
 fo Tryz.func70 (by kernel_rfl) h
theorem zS {r : Value × AH} (h : (
 (ir [Z, (vi 1)]).bind fun a =>
 (jz [a, (vi 4)]).bind fun b =>
 (ir [x2, (vi 1)]).bind fun c =>
 (jz [c, (vi 4)]).bind fun d =>
 gJ [(0, 1), (1, 1), (2, 1)] [(.pointer none), (vi 0), (vi 0)] [(0, Y), (1, b), (2, d)] fun e =>
 aS (Value.cells e).toList H fun f g =>
 some (f, g)) = some r) : FF mr [Y, Z, x2] H = some r :=
 fo Tryz.func71 (by kernel_rfl) h
theorem CJ {r : Value × AH} (h : (
 (ir [Z, (vi 1)]).bind fun a =>
 (jz [a, (vi 6)]).bind fun b =>
 gJ [(0, 1), (1, 1), (2, 1), (3, 1), (4, 1), (5, 1)] [(.pointer none), (vi 0), (.slice none 0 0), (.slice none 0 0), (.slice none 0 0), (.slice none 0 0)] [(0, Y), (1, b)] fun c =>
 aS (Value.cells c).toList H fun d e =>
 some (d, e)) = some r) : FF nH [Y, Z] H = some r :=
 fo Tryz.func72 (by kernel_rfl) h
theorem CI {r : Value × AH} (h : (
 aS (Value.cells Y).toList H fun b a =>
 ld [.f 0] b a fun d =>
 ld [.f 3] b a fun e =>
 (FF XM [d, e] a).bind fun c =>
 gJ [(0, 1), (1, 1), (2, 1), (3, 1), (4, 1), (5, 1), (6, 1), (7, 1), (8, 1)] [(.pointer none), (vw 0), (vw 0), (vi 0), (.slice none 0 0), (.slice none 0 0), (vb false), (vi 0), (vw 0)] [(0, c.1)] fun g =>
 aS (Value.cells g).toList c.2 fun i j =>
 some (i, j)) = some r) : FF nG [Y] H = some r :=
 fo Tryz.func73 (by kernel_rfl) h
theorem CE {r : Value × AH} (h : (
 (ak .other .lss Y (vw 1)).bind fun a =>
 (gV a false Y).bind fun d =>
 (gB a false (ak .other .gtr d (vw 4611686018427387904))).bind fun e =>
 (aM a (vb true) e).bind fun b =>
 (gV b false Z).bind fun f =>
 (gB b false (ak .other .lss f (vi 1))).bind fun g =>
 (aM b (vb true) g).bind fun c =>
 (gV c false Z).bind fun i =>
 (gB c false (ak .other .gtr i (vi 65536))).bind fun j =>
 (aM c (vb true) j).bind fun k =>
 au k
 (some (Value.tuple #[(vw 0), (vb false)], H))
 ((cF (some .u64) Z).bind fun l =>
 (ak .other .quo Y l).bind fun m =>
 (ir [m, (vw 1)]).bind fun n =>
 some (Value.tuple #[n, (vb true)], H))) = some r) : FF j4 [Y, Z] H = some r :=
 fo Tryz.func74 (by kernel_rfl) h
theorem kX {r : Value × AH} (h : (
 aS (Value.cells x2).toList H fun b d =>
 ld [.n, .f 10] Y d fun j =>
 gI j fun e =>
 ld [.n, .f 0] Y d fun k =>
 gJ [(0, 1), (1, 1), (2, 1)] [(vi 0), (vi 0), (vi 0)] [(0, (vi 13)), (1, e)] fun l =>
 (FF fZ [k, Z, l] d).bind fun a =>
 ad [.n, .f 10] Y fun g =>
 (aq g a.2).bind fun m =>
 (ay 3 b a.2).bind fun o =>
 ld [.n, .f 0] Y a.2 fun p =>
 ld [.f 1] b a.2 fun q =>
 (FF tD [p, e, q] a.2).bind fun c =>
 bS (aq g c.2) (aq g a.2) <|
 bS (ay 3 b c.2) (ay 3 b a.2) <|
 gJ [(0, 3), (3, 1)] [(vi 0), (vi 0), (vw 0), (.pointer none)] [(0, o), (1, c.1)] fun s =>
 AB 1 4 [(vi 0), (vi 0), (vw 0), (.pointer none)] [(0, s)] c.2 fun t w =>
 (e8 4 32 m t w).bind fun i =>
 st 1 [.n, .f 10] Y i.1 i.2 fun y =>
 some (e, y)) = some r) : FF dU [Y, Z, x2] H = some r :=
 fo Tryz.func75 (by kernel_rfl) h
theorem vT {r : Value × AH} (h : (
 aS (Value.cells x2).toList H fun o c =>
 ld [.n, .f 10] Y c fun q =>
 gI q fun e =>
 ad [.n, .f 5] Y fun g =>
 (aq g c).bind fun s =>
 (FF bY [(vi 13), e, (vi 0)] c).bind fun i =>
 bS (aq g i.2) (aq g c) <|
 (FF cg [s, Z, (vi 6), i.1] i.2).bind fun j =>
 ld [.n, .f 10] Y j.2 fun t =>
 (ay 3 o j.2).bind fun w =>
 AB 1 3 [(vi 0), (vi 0), (vw 0)] [(0, w)] j.2 fun y d =>
 (e8 3 24 t y d).bind fun a =>
 ad [.n, .f 11] Y fun b =>
 (aq b a.2).bind fun z =>
 bS (aq b d) (aq b a.2) <|
 ad [.n, .f 5] Y fun k =>
 (aq k a.2).bind fun A =>
 bS (aq k d) (aq k a.2) <|
 ad [.f 1] o fun l =>
 (aq l a.2).bind fun B =>
 bS (aq l d) (aq l a.2) <|
 (FF nI [A, e, B] a.2).bind fun m =>
 bS (aq b m.2) (aq b a.2) <|
 AB 1 1 [(.pointer none)] [(0, m.1)] m.2 fun C D =>
 (e8 1 8 z C D).bind fun p =>
 st 1 [.n, .f 10] Y a.1 p.2 fun E =>
 st 1 [.n, .f 11] Y p.1 E fun G =>
 some (e, G)) = some r) : FF gN [Y, Z, x2] H = some r :=
 fo Tryz.func76 (by kernel_rfl) h
theorem ub {r : Value × AH} (h : (
 (ak .other .lss x4 (vi 0)).bind fun a =>
 (gV a false x4).bind fun g =>
 (gB a false (ak .other .gtr g (vi 1048576))).bind fun i =>
 (aM a (vb true) i).bind fun b =>
 (gV b false x5).bind fun j =>
 (gB b false (ak .other .lss j (vi 0))).bind fun k =>
 (aM b (vb true) k).bind fun c =>
 (gV c false x5).bind fun l =>
 (gB c false (ak .other .geq l (vi 4294967296))).bind fun m =>
 (aM c (vb true) m).bind fun o =>
 au o
 (some ((vb false), H))
 (ad [.n, .f 0] Y fun d =>
 (aq d H).bind fun p =>
 (FF jj [x2, x3] H).bind fun e =>
 bS (aq d e.2) (aq d H) <|
 (ak .other .add x4 (vi 1)).bind fun q =>
 (cF (some .u64) q).bind fun s =>
 (ak .other .shl s (vw 32)).bind fun t =>
 (cF (some .u64) x5).bind fun w =>
 (ak .other .or t w).bind fun y =>
 (FF dC [p, Z, e.1, y] e.2).bind fun z =>
 some ((vb true), z.2))) = some r) : FF gf [Y, Z, x2, x3, x4, x5] H = some r :=
 fo Tryz.func77 (by kernel_rfl) h
theorem xK {r : Value × AH} (h : (
 (ak .other .lss x4 (vi 0)).bind fun b =>
 (gV b false x4).bind fun g =>
 (gB b false (ak .other .gtr g (vi 1048576))).bind fun i =>
 (aM b (vb true) i).bind fun c =>
 (gV c false x5).bind fun j =>
 (gB c false (ak .other .lss j (vi 0))).bind fun k =>
 (aM c (vb true) k).bind fun a =>
 (gV a false x5).bind fun l =>
 (gB a false (cF (some .u64) l)).bind fun m =>
 (gB a false (ak .other .geq m (vw 4294967296))).bind fun o =>
 (aM a (vb true) o).bind fun p =>
 au p
 (some ((vb false), H))
 (ad [.n, .f 0] Y fun d =>
 (aq d H).bind fun q =>
 (FF bY [(vi 10), x2, x3] H).bind fun e =>
 bS (aq d e.2) (aq d H) <|
 (ak .other .add x4 (vi 1)).bind fun s =>
 (cF (some .u64) s).bind fun t =>
 (ak .other .mul t (vw 4294967296)).bind fun w =>
 (cF (some .u64) x5).bind fun y =>
 (ak .other .add w y).bind fun z =>
 (FF ef [q, Z, e.1, z] e.2).bind fun A =>
 some ((vb true), A.2))) = some r) : FF iB [Y, Z, x2, x3, x4, x5] H = some r :=
 fo Tryz.func78 (by kernel_rfl) h
theorem su {r : Value × AH} (h : (
 ld [.n, .f 0] Y H fun a =>
 gJ [(0, 1), (1, 1), (2, 1)] [(vi 0), (vi 0), (vi 0)] [(0, (vi 2))] fun b =>
 (FF f5 [a, Z, b, (vw 1)] H).bind fun c =>
 some (Value.tuple #[], c.2)) = some r) : FF dW [Y, Z] H = some r :=
 fo Tryz.func81 (by kernel_rfl) h
theorem vU {r : Value × AH} (h : (
 ad [.n, .f 5] Y fun a =>
 (aq a H).bind fun c =>
 (FF bY [(vi 2), (vi 0), (vi 0)] H).bind fun b =>
 bS (aq a b.2) (aq a H) <|
 (FF iq [c, Z, b.1, (vw 1)] b.2).bind fun d =>
 some (Value.tuple #[], d.2)) = some r) : FF fy [Y, Z] H = some r :=
 fo Tryz.func82 (by kernel_rfl) h
theorem zO {r : Value × AH} (h : (
 aS (Value.cells Z).toList H fun c b =>
 (ay 3 c b).bind fun d =>
 (FF yE [Y, d] b).bind fun a =>
 ld [.n, .f 1] Y a.2 fun e =>
 ld [.i 1 a.1] e a.2 fun g =>
 some (g, a.2)) = some r) : FF mo [Y, Z] H = some r :=
 fo Tryz.func83 (by kernel_rfl) h
theorem MH {r : Value × AH} (h : (
 aS [(vi 0), (vi 0), (vi 0)] H fun a c =>
 gJ [(0, 1), (1, 1), (2, 1)] [(vi 0), (vi 0), (vi 0)] [(0, Y), (1, Z), (2, x2)] fun d =>
 (cB 3 a d c).bind fun b =>
 (ay 3 a b).bind fun e => some (e, b)) = some r) : FF bY [Y, Z, x2] H = some r :=
 fo Tryz.func84 (by kernel_rfl) h
theorem wi {r : Value × AH} (h : (
 (FF fD [Y, Z, x2, (.func (.func mY) #[] #[])] H).bind fun a =>
 some (a.1, a.2)) = some r) : FF jQ [Y, Z, x2] H = some r :=
 fo Tryz.func85 (by kernel_rfl) h
theorem xI {r : Value × AH} (h : (
 (FF oU [x2, x3] H).bind fun b =>
 (ag b.1 0).bind fun g =>
 (ag b.1 1).bind fun a =>
 (gV a true Y).bind fun i =>
 G3 a true  [.n, .f 0] i fun d =>
 (gB a true (aq d b.2)).bind fun j =>
 (gV a true Z).bind fun k =>
 (gV a true Y).bind fun l =>
 fI a true  [.n, .f 1] l b.2 fun m =>
 (gE a true b.2 (FF bY [(vi 11), m, (vi 0)] b.2)).bind fun c =>
 bS (aq d c.2) (aq d b.2) <|
 (gV a true x2).bind fun o =>
 (gV a true g).bind fun p =>
 (gE a true c.2 (FF gv [j, k, c.1, o, p] c.2)).bind fun e =>
 (aM a e.1 (vb false)).bind fun q =>
 some (q, e.2)) = some r) : FF f0 [Y, Z, x2, x3] H = some r :=
 fo Tryz.func86 (by kernel_rfl) h
theorem qN {r : Value × AH} (h : (
 ld [.n, .f 11] Y H fun a =>
 (eJ .int a Z x2 H).bind fun b =>
 some (Value.tuple #[], b)) = some r) : FF ia [Y, Z, x2] H = some r :=
 fo Tryz.func87 (by kernel_rfl) h
theorem tQ {r : Value × AH} (h : (
 ld [.n, .f 12] Y H fun b =>
 AB 2 1 [(vi 0)] [(0, Z), (1, x2)] H fun c d =>
 (e8 1 8 b c d).bind fun a =>
 st 1 [.n, .f 12] Y a.1 a.2 fun e =>
 some (Value.tuple #[], e)) = some r) : FF jh [Y, Z, x2] H = some r :=
 fo Tryz.func88 (by kernel_rfl) h
noncomputable def PC (p : List Nat) : Code := Code.sub (bQ Tryz.f89) p
noncomputable def B3 : KK := eO PP (Tryz.f89).results.toList
noncomputable def WV : KK := CQ (PC [1]) B3 bP B3
noncomputable def yo : OV := WV (ls [Y, Z, u, u, x4, x5] 45) H
noncomputable def L5 : KK := CQ (PC [1, 1]) B3 bP B3
noncomputable def aeN : KK := gY NP L5
noncomputable def pZ : OV := L5 (ls [Y, Z, u, u, x4, x5] 45) H
noncomputable def aeO : KX := BX 0 aeN bP
theorem At : av 2251799813685199 B3 := rf
theorem WW : av NP WV := rc At aE At
theorem Jj : av NP L5 := rc At aE At
theorem WX : ∀ i, av NP (aeO i) := rb (cd Jj) aE
theorem Bq : pZ Y Z x4 x5 H =
 (FF jJ [Y, Z] H).bind fun a =>
 (ag a.1 0).bind fun c =>
 (ag a.1 1).bind fun d =>
 (cB 4 x4 c a.2).bind fun b =>
 (ay 4 x4 b).bind fun e => some (Value.tuple #[e, d], b) :=
 (by kernel_rfl)
theorem Bp : yo Y Z x4 x5 H =
 ld [.n, .f 2, .f 2] Y H fun i =>
 (ak .other .lss i (vi 1)).bind fun a =>
 (gV a false Y).bind fun j =>
 fI a false  [.n, .f 2, .f 2] j H fun k =>
 (gB a false (ak .other .gtr k (vi 65536))).bind fun l =>
 (aM a (vb true) l).bind fun m =>
 au m
 ((FF iU [Y, Z, (vi 3)] H).bind fun c =>
 (ag c.1 0).bind fun o =>
 (ag c.1 1).bind fun p =>
 (cB 4 x4 o c.2).bind fun e =>
 (ay 4 x4 e).bind fun q => some (Value.tuple #[q, p], e))
 (ld [.n, .f 2, .f 1] Y H fun s =>
 (ak .other .lss s (vi 0)).bind fun b =>
 (gV b false Y).bind fun t =>
 fI b false  [.n, .f 2, .f 1] t H fun w =>
 (gB b false (ak .other .gtr w (vi 1048576))).bind fun y =>
 (aM b (vb true) y).bind fun z =>
 au z
 ((FF iU [Y, Z, (vi 5)] H).bind fun d =>
 (ag d.1 0).bind fun A =>
 (ag d.1 1).bind fun B =>
 (cB 4 x4 A d.2).bind fun g =>
 (ay 4 x4 g).bind fun C => some (Value.tuple #[C, B], g))
 (pZ Y Z x4 x5 H)) :=
 (pt rfl 0 Jj (bt rfl (PC [1, 0, 4]) 0 WX (by kernel_rfl)))
noncomputable def Ve : OV := bi PP GG FF (PC []) (ls [Y, Z] 49) H B3 bP B3
theorem IY {r : Value × AH} (h : (
 aS [(vi 0), (.slice none 0 0), (vi 0), (vw 0)] H fun a b =>
 yo Y Z a (vb false) b) = some r) : FF mi [Y, Z] H = some r :=
 fo (t := Ve Y Z H) Tryz.func89 (by kernel_rfl) (Eq.trans (pt rfl 0 WW (by kernel_rfl)) h)
theorem xX {r : Value × AH} (h : (
 aS [(vi 0), (.slice none 0 0), (vi 0), (vw 0)] H fun a g =>
 (FF gc [Y] g).bind fun b =>
 au b.1
 ((FF dh [Y, Z, (vi 5)] b.2).bind fun c =>
 (ag c.1 0).bind fun i =>
 (ag c.1 1).bind fun j =>
 (cB 4 a i c.2).bind fun e =>
 (ay 4 a e).bind fun k => some (Value.tuple #[k, j], e))
 ((FF cS [Y, Z] b.2).bind fun d =>
 (ag d.1 0).bind fun l =>
 (ag d.1 1).bind fun m =>
 (cB 4 a l d.2).bind fun f =>
 (ay 4 a f).bind fun n => some (Value.tuple #[n, m], f))) = some r) : FF en [Y, Z] H = some r :=
 fo Tryz.func90 (by kernel_rfl) h
noncomputable def PD (p : List Nat) : Code := Code.sub (bQ Tryz.f91) p
noncomputable def B4 : KK := eO PP (Tryz.f91).results.toList
noncomputable def WY : KK := CQ (PD [1]) B4 bP B4
noncomputable def pI : OV := WY (ls [Y, Z, u, u, x4, x5] 53) H
noncomputable def L6 : KK := CQ (PD [1, 1]) B4 bP B4
noncomputable def aeP : KK := gY NO L6
noncomputable def pJ : OV := L6 (ls [Y, Z, u, u, x4, x5] 53) H
noncomputable def aeQ : KX := BX 0 aeP bP
theorem Au : av 576460752303423439 B4 := rf
theorem WZ : av NO WY := rc Au aE Au
theorem Jk : av NO L6 := rc Au aE Au
theorem W0 : ∀ i, av NO (aeQ i) := rb (cd Jk) aE
theorem t5 : pJ Y Z x4 x5 H =
 (FF cG [Y, Z] H).bind fun a =>
 (ag a.1 0).bind fun c =>
 (ag a.1 1).bind fun d =>
 (cB 4 x4 c a.2).bind fun b =>
 (ay 4 x4 b).bind fun e => some (Value.tuple #[e, d], b) :=
 (by kernel_rfl)
theorem t4 : pI Y Z x4 x5 H =
 (FF gc [Y] H).bind fun a =>
 au a.1
 ((FF dh [Y, Z, (vi 1)] a.2).bind fun d =>
 (ag d.1 0).bind fun l =>
 (ag d.1 1).bind fun m =>
 (cB 4 x4 l d.2).bind fun i =>
 (ay 4 x4 i).bind fun o => some (Value.tuple #[o, m], i))
 (ld [.n, .f 2, .f 2] Y a.2 fun p =>
 (ak .other .lss p (vi 1)).bind fun b =>
 (gV b false Y).bind fun q =>
 fI b false  [.n, .f 2, .f 2] q a.2 fun s =>
 (gB b false (ak .other .gtr s (vi 65536))).bind fun t =>
 (aM b (vb true) t).bind fun w =>
 au w
 ((FF dh [Y, Z, (vi 4)] a.2).bind fun e =>
 (ag e.1 0).bind fun y =>
 (ag e.1 1).bind fun z =>
 (cB 4 x4 y e.2).bind fun j =>
 (ay 4 x4 j).bind fun A => some (Value.tuple #[A, z], j))
 (ld [.n, .f 2, .f 3] Y a.2 fun B =>
 (ak .other .lss B (vi 1)).bind fun c =>
 (gV c false Y).bind fun C =>
 fI c false  [.n, .f 2, .f 3] C a.2 fun D =>
 (gB c false (ak .other .gtr D (vi 8))).bind fun E =>
 (aM c (vb true) E).bind fun G =>
 au G
 ((FF dh [Y, Z, (vi 1)] a.2).bind fun g =>
 (ag g.1 0).bind fun I =>
 (ag g.1 1).bind fun J =>
 (cB 4 x4 I g.2).bind fun k =>
 (ay 4 x4 k).bind fun K => some (Value.tuple #[K, J], k))
 (pJ Y Z x4 x5 a.2))) :=
 (pt rfl 0 Jk (bt rfl (PD [1, 0, 4]) 0 W0 (by kernel_rfl)))
noncomputable def HW : OV := bi PP GG FF (PD []) (ls [Y, Z] 57) H B4 bP B4
theorem z0 {r : Value × AH} (h : (
 aS [(vi 0), (.slice none 0 0), (vi 0), (vw 0)] H fun a b =>
 pI Y Z a (vb false) b) = some r) : FF fB [Y, Z] H = some r :=
 fo (t := HW Y Z H) Tryz.func91 (by kernel_rfl) (Eq.trans (pt rfl 0 WZ (by kernel_rfl)) h)
noncomputable def W3 (p : List Nat) : Code := Code.sub (bQ Tryz.f92) p
noncomputable def B5 : KK := eO PP (Tryz.f92).results.toList
noncomputable def W4 : KK := CQ (W3 [1, 1]) B5 bP B5
noncomputable def mz : OV := W4 (ls [Y, u, u, u, x4, x5] 15) H
noncomputable def W6 : KK := CQ (W3 [1, 1, 1]) B5 bP B5
noncomputable def iK : OV := W6 (ls [u, u, u, u, x4, x5] 15) H
theorem Av : av 2097135 B5 := rf
theorem W5 : av 2097102 W4 := rc Av aE Av
theorem W7 : av 2097103 W6 := rc Av aE Av
theorem jA : iK x4 x5 H =
 some (x5, H) :=
 (by kernel_rfl)
theorem pS : mz Y x4 x5 H =
 (ak .other .lss x5 (vi 0)).bind fun a =>
 au a
 (ld [.n, .f 1] Y H fun b =>
 (ak .other .add x5 b).bind fun c =>
 iK x4 c H)
 (iK x4 x5 H) :=
 (pt rfl 0 W7 (by kernel_rfl))
noncomputable def zW : OV := bi PP GG FF (W3 []) (ls [Y, Z] 19) H B5 bP B5
theorem tS {r : Value × AH} (h : (
 ld [.n, .f 1] Y H fun a =>
 (ak .other .rem Z a).bind fun b =>
 mz Y (vi 0) b H) = some r) : FF eG [Y, Z] H = some r :=
 fo (t := zW Y Z H) Tryz.func92 (by kernel_rfl) (Eq.trans (pt rfl 1 W5 (by kernel_rfl)) h)
theorem xL {r : Value × AH} (h : (
 gJ [(0, 1), (1, 1), (2, 1), (3, 1)] [(vi 0), (.slice none 0 0), (vi 0), (vw 0)] [(0, x2)] fun b =>
 st 4 [.n, .f 17] Y b H fun a =>
 ld [.n, .f 0] Y a fun c =>
 ld [.n, .f 1] Y a fun d =>
 ldN 4 [.n, .f 17] Y a fun e =>
 (FF XN [c, Z, d, e] a).bind fun g =>
 some (Value.tuple #[], g.2)) = some r) : FF bC [Y, Z, x2] H = some r :=
 fo Tryz.func93 (by kernel_rfl) h
noncomputable def W8 (p : List Nat) : Code := Code.sub (bQ Tryz.f94) p
noncomputable def B6 : KK := eO PP (Tryz.f94).results.toList
noncomputable def W9 : KK := CQ (W8 [1, 1, 1]) B6 bP B6
noncomputable def Ys : OV := W9 (ls [Y, u, x2, x3, u, u, x6] 88) H
noncomputable def Xb : KK := CQ (W8 [1, 1, 1, 1]) B6 bP B6
noncomputable def CW : OV := Xb (ls [Y, u, x2, x3] 91) H
theorem Aw : av 39614081257132168796771975155 B6 := rf
theorem Xa : av 39614081257132168796771975090 W9 := rc Aw aE Aw
theorem Xc : av 39614081257132168796771975154 Xb := rc Aw aE Aw
theorem Fb : CW Y x2 x3 H =
 ld [.n, .f 7] Y H fun b =>
 (ak .other .add b (vi 1)).bind fun c =>
 st 1 [.n, .f 7] Y c H fun a =>
 ld [.n, .f 7] Y a fun d =>
 ld [.n, .f 0] Y a fun e =>
 ld [.n, .f 7] e a fun g =>
 ld [.n, .f 2] g a fun i =>
 (ak .other .geq d i).bind fun j =>
 some (Value.tuple #[(vb false), j], a) :=
 (by kernel_rfl)
theorem se : Ys Y x2 x3 x6 H =
 (oW .not x6).bind fun a =>
 (gV a true Y).bind fun b =>
 fI a true  [.n, .f 8] b H fun c =>
 (gB a true (ak .other .lss c (vi 0))).bind fun d =>
 (aM a d (vb false)).bind fun e =>
 au e
 (ld [.n, .f 7] Y H fun g =>
 st 1 [.n, .f 8] Y g H fun i =>
 CW Y x2 x3 i)
 (CW Y x2 x3 H) :=
 (pt rfl 0 Xc (by kernel_rfl))
noncomputable def rTs : OV := bi PP GG FF (W8 []) (ls [Y] 94) H B6 bP B6
theorem Yt {r : Value × AH} (h : (
 ad [.n, .f 0] Y fun d =>
 (aq d H).bind fun j =>
 ad [.n, .f 7] j fun e =>
 (aq e H).bind fun k =>
 ad [.n, .f 1] Y fun g =>
 (aq g H).bind fun l =>
 ld [.n, .f 0] Y H fun m =>
 ld [.n, .f 7] m H fun o =>
 ld [.n, .f 2, .f 1] Y H fun p =>
 (FF eG [o, p] H).bind fun a =>
 bS (aq d a.2) (aq d H) <|
 bS (aq e a.2) (aq e H) <|
 bS (aq g a.2) (aq g H) <|
 ad [.n, .f 7] Y fun i =>
 (aq i a.2).bind fun q =>
 bS (aq i H) (aq i a.2) <|
 (FF jO [k, l, a.1, q] a.2).bind fun b =>
 (ag b.1 0).bind fun s =>
 (ag b.1 1).bind fun w =>
 (ag b.1 2).bind fun c =>
 (gV c true s).bind fun y =>
 (gV c true Y).bind fun z =>
 fI c true  [.n, .f 2, .f 1] z b.2 fun A =>
 (gB c true (ak .other .eql y A)).bind fun B =>
 (aM c B (vb false)).bind fun C =>
 au C
 (st 1 [.n, .f 9] Y (vb true) b.2 fun D =>
 st 1 [.n, .f 10] Y w D fun E =>
 some (Value.tuple #[(vb true), (vb false)], E))
 (Ys Y (vb false) (vb false) c b.2)) = some r) : FF Cx [Y] H = some r :=
 fo (t := rTs Y H) Tryz.func94 (by kernel_rfl) (Eq.trans (pt rfl 2 Xa (by kernel_rfl)) h)
theorem vV {r : Value × AH} (h : (
 ad [.n, .f 0] Y fun a =>
 (aq a H).bind fun d =>
 (FF bY [(vi 8), x2, (vi 0)] H).bind fun b =>
 bS (aq a b.2) (aq a H) <|
 (FF gv [d, Z, b.1, (vw 0), (vw 1)] b.2).bind fun c =>
 some (c.1, c.2)) = some r) : FF gO [Y, Z, x2] H = some r :=
 fo Tryz.func95 (by kernel_rfl) h
theorem sx {r : Value × AH} (h : (
 ad [.n, .f 0] Y fun a =>
 (aq a H).bind fun c =>
 (FF bY [(vi 8), x2, (vi 0)] H).bind fun b =>
 bS (aq a b.2) (aq a H) <|
 (FF ef [c, Z, b.1, (vw 0)] b.2).bind fun d =>
 some (Value.tuple #[], d.2)) = some r) : FF dY [Y, Z, x2] H = some r :=
 fo Tryz.func96 (by kernel_rfl) h
theorem xD {r : Value × AH} (h : (
 aS [(vi 0), (vi 0), (vw 0)] H fun c b =>
 (ak .other .lss x2 (vi 0)).bind fun a =>
 (gV a false x2).bind fun l =>
 (gV a false Y).bind fun m =>
 fI a false  [.n, .f 10] m b fun o =>
 (xu (yv a) false (gI o some) (some undef)).bind fun p =>
 (gB a false (ak .other .geq l p)).bind fun q =>
 (aM a (vb true) q).bind fun s =>
 au s
 (gJ [(0, 1), (1, 1), (2, 1)] [(vi 0), (vi 0), (vw 0)] [] fun t =>
 (cB 3 c t b).bind fun j =>
 (ay 3 c j).bind fun w => some (w, j))
 (ad [.n, .f 5] Y fun d =>
 (aq d b).bind fun y =>
 (FF bY [(vi 13), x2, (vi 0)] b).bind fun e =>
 bS (aq d e.2) (aq d b) <|
 (FF cg [y, Z, (vi 5), e.1] e.2).bind fun g =>
 ld [.n, .f 10] Y g.2 fun z =>
 ldN 3 [.i 3 x2] z g.2 fun A =>
 (cB 3 c A g.2).bind fun k =>
 (ay 3 c k).bind fun B => some (B, k))) = some r) : FF kL [Y, Z, x2] H = some r :=
 fo Tryz.func97 (by kernel_rfl) h
theorem xO {r : Value × AH} (h : (
 (FF bT [Y] H).bind fun a =>
 ad [.n, .f 1] Y fun c =>
 (aq c a.2).bind fun g =>
 bS (aq c H) (aq c a.2) <|
 (FF kM [a.1, g] a.2).bind fun d =>
 st 1 [.n, .f 11] Y d.1 d.2 fun e =>
 ld [.n, .f 11] Y e fun i =>
 (FF gu [i] e).bind fun b =>
 (ag b.1 0).bind fun k =>
 (ag b.1 1).bind fun j =>
 (ag b.1 2).bind fun l =>
 some (j, b.2)) = some r) : FF ej [Y] H = some r :=
 fo Tryz.func98 (by kernel_rfl) h
theorem xM {r : Value × AH} (h : (
 ld [.n, .f 0] Y H fun a =>
 ld [.n, .f 11] a H fun b =>
 ld [.n, .f 10] Y H fun c =>
 ld [.i 1 c] b H fun d =>
 some (d, H)) = some r) : FF bT [Y] H = some r :=
 fo Tryz.func99 (by kernel_rfl) h
theorem xG {r : Value × AH} (h : (
 ad [.n, .f 0] Y fun a =>
 (aq a H).bind fun d =>
 ld [.n, .f 1] Y H fun e =>
 (FF bY [(vi 12), e, (vi 0)] H).bind fun b =>
 bS (aq a b.2) (aq a H) <|
 (FF dX [d, Z, b.1] b.2).bind fun c =>
 some (c.1, c.2)) = some r) : FF iz [Y, Z] H = some r :=
 fo Tryz.func100 (by kernel_rfl) h
theorem Hz {r : Value × AH} (h : (
 (ak .other .rem Y (vw 2305843009213693952)).bind fun b =>
 (ak .other .quo Y (vw 2305843009213693952)).bind fun c =>
 (cF (some .i64) c).bind fun a =>
 (ak .other .gtr a (vi 2)).bind fun d =>
 au d
 (some (Value.tuple #[(vw 0), (vi (-1)), (vb false)], H))
 (some (Value.tuple #[b, a, (vb true)], H))) = some r) : FF gu [Y] H = some r :=
 fo Tryz.func101 (by kernel_rfl) h
theorem xF {r : Value × AH} (h : (
 (FF gu [Z] H).bind fun b =>
 (ag b.1 0).bind fun c =>
 (ag b.1 1).bind fun o =>
 (ag b.1 2).bind fun p =>
 (ak .other .geq c x2).bind fun a =>
 (gV a true c).bind fun d =>
 (gV a true x2).bind fun e =>
 (gB a true (ak .other .sub d e)).bind fun g =>
 (gV a true Y).bind fun i =>
 fI a true  [.n, .f 2] i b.2 fun j =>
 (gB a true (cF (some .u64) j)).bind fun k =>
 (gB a true (ak .other .geq g k)).bind fun l =>
 (aM a l (vb false)).bind fun m =>
 some (m, b.2)) = some r) : FF iy [Y, Z, x2] H = some r :=
 fo Tryz.func102 (by kernel_rfl) h
noncomputable def FY (p : List Nat) : Code := Code.sub (bQ Tryz.f103) p
noncomputable def p7 : KK := eO PP (Tryz.f103).results.toList
noncomputable def N4 : KK := CQ (FY [1]) p7 bP p7
noncomputable def ng : OV := N4 (ls [Y, Z] 48) H
noncomputable def N5 : KK := CQ (FY [1, 1]) p7 bP p7
noncomputable def gg : OV := N5 (ls [Y, Z] 48) H
noncomputable def Z4 : KX := BX 0 p7 bP
theorem p8 : av 1125899906842623 p7 := rf
theorem Rm : av 1125899906842620 N4 := rc p8 aE p8
theorem Rn : av 1125899906842620 N5 := rc p8 aE p8
theorem Ro : ∀ i, av 1125899906842623 (Z4 i) := rb p8 aE
theorem qU : gg Y Z H =
 (FF bT [Y] H).bind fun a =>
 ad [.n, .f 1] Y fun c =>
 (aq c a.2).bind fun g =>
 bS (aq c H) (aq c a.2) <|
 ad [.n, .f 11] Y fun d =>
 (aq d a.2).bind fun i =>
 bS (aq d H) (aq d a.2) <|
 (FF f0 [a.1, g, i, (vi 0)] a.2).bind fun b =>
 au b.1
 ((FF bC [Y, Z, (vi 0)] b.2).bind fun e =>
 ld [.n, .f 6] Y e.2 fun j =>
 (ak .other .add j (vi 1)).bind fun k =>
 st 1 [.n, .f 6] Y k e.2 fun l =>
 some (Value.tuple #[], l))
 (ld [.n, .f 6] Y b.2 fun m =>
 (ak .other .eql m (vi 9)).bind fun o =>
 au o
 (st 1 [.n, .f 6] Y (vi 7) b.2 fun p =>
 some (Value.tuple #[], p))
 (st 1 [.n, .f 6] Y (vi 20) b.2 fun q =>
 some (Value.tuple #[], q))) :=
 (bt rfl (FY [1, 1, 4]) 0 Ro (by kernel_rfl))
theorem qT : ng Y Z H =
 ld [.n, .f 6] Y H fun a =>
 (ak .other .eql a (vi 13)).bind fun b =>
 au b
 (st 1 [.n, .f 13] Y (vw 1) H fun c =>
 gg Y Z c)
 (gg Y Z H) :=
 (pt rfl 0 Rn (by kernel_rfl))
noncomputable def CN : OV := bi PP GG FF (FY []) (ls [Y, Z] 48) H p7 bP p7
theorem vX {r : Value × AH} (h : (
 st 1 [.n, .f 13] Y (vw 0) H fun a =>
 ng Y Z a) = some r) : FF jP [Y, Z] H = some r :=
 fo (t := CN Y Z H) Tryz.func103 (by kernel_rfl) (Eq.trans (pt rfl 0 Rm (by kernel_rfl)) h)
theorem zV {r : Value × AH} (h : (
 aS (Value.cells x3).toList H fun g a =>
 ad [.n, .f 0] Y fun b =>
 (aq b a).bind fun m =>
 ad [.n, .f 1] Y fun j =>
 (aq j a).bind fun o =>
 (FF ei [Y, x2] a).bind fun d =>
 bS (aq b d.2) (aq b a) <|
 bS (aq j d.2) (aq j a) <|
 (FF bY [(vi 16), o, d.1] d.2).bind fun k =>
 bS (aq b k.2) (aq b a) <|
 (FF cg [m, Z, (vi 6), k.1] k.2).bind fun e =>
 ad [.n, .f 3] Y fun l =>
 (aq l e.2).bind fun p =>
 (FF ei [Y, x2] e.2).bind fun c =>
 bS (aq l c.2) (aq l e.2) <|
 (ay 3 g c.2).bind fun q =>
 bS (ay 3 g e.2) (ay 3 g c.2) <|
 st 3 [.i 3 c.1] p q c.2 fun s =>
 some (Value.tuple #[], s)) = some r) : FF mt [Y, Z, x2, x3] H = some r :=
 fo Tryz.func104 (by kernel_rfl) h
theorem vY {r : Value × AH} (h : (
 ld [.n, .f 11] Y H fun b =>
 (FF gu [b] H).bind fun a =>
 (ag a.1 0).bind fun c =>
 (ag a.1 1).bind fun d =>
 (ag a.1 2).bind fun e =>
 some (c, a.2)) = some r) : FF fA [Y] H = some r :=
 fo Tryz.func105 (by kernel_rfl) h
theorem xH {r : Value × AH} (h : (
 ad [.n, .f 0] Y fun a =>
 (aq a H).bind fun e =>
 ad [.n, .f 1] Y fun c =>
 (aq c H).bind fun g =>
 (FF ei [Y, x2] H).bind fun b =>
 bS (aq a b.2) (aq a H) <|
 bS (aq c b.2) (aq c H) <|
 (FF bY [(vi 15), g, b.1] b.2).bind fun d =>
 bS (aq a d.2) (aq a H) <|
 (ak .other .add x2 (vw 1)).bind fun i =>
 (FF ef [e, Z, d.1, i] d.2).bind fun j =>
 some (Value.tuple #[], j.2)) = some r) : FF iA [Y, Z, x2] H = some r :=
 fo Tryz.func106 (by kernel_rfl) h
theorem tK {r : Value × AH} (h : (
 ad [.n, .f 0] Y fun a =>
 (aq a H).bind fun c =>
 (FF bY [(vi 3), (vi 0), (vi 0)] H).bind fun b =>
 bS (aq a b.2) (aq a H) <|
 (FF iq [c, Z, b.1, (vw 4294967296)] b.2).bind fun d =>
 some (Value.tuple #[], d.2)) = some r) : FF jg [Y, Z] H = some r :=
 fo Tryz.func107 (by kernel_rfl) h
noncomputable def Bz (p : List Nat) : Code := Code.sub (bQ Tryz.f108) p
noncomputable def p9 : KK := eO PP (Tryz.f108).results.toList
noncomputable def N7 : KK := CQ (Bz [1]) p9 bP p9
noncomputable def Yq : OV := N7 (ls [Y, Z, u, u, x4] 100) H
noncomputable def FZ : KK := CQ (Bz [1, 1]) p9 bP p9
noncomputable def N6 : KK := gY NJ FZ
noncomputable def o8 : OV := FZ (ls [u, u, u, u, x4] 100) H
noncomputable def N8 : KK := CQ (Bz [1, 0, 1]) N6 bP p9
noncomputable def Yr : OV := N8 (ls [Y, Z, u, u, x4, u, u, u, x8] 96) H
noncomputable def Z5 : KX := BX 0 N6 bP
theorem qa : av NJ p9 := rf
theorem Rp : av 40564819207303340847894502572012 N7 := rc qa aE qa
theorem wP : av NJ FZ := rc qa aE qa
theorem Rq : av 40564819207303340847894502571756 N8 := rc (cd wP) aE qa
theorem Rs : ∀ i, av NJ (Z5 i) := rb (cd wP) aE
theorem jU : o8 x4 H =
 some ((vb false), H) :=
 (by kernel_rfl)
theorem sd : Yr Y Z x4 x8 H =
 (ak .other .eql x8 (vi 15)).bind fun q =>
 au q
 (ld [.n, .f 0] Y H fun s =>
 ld [.n, .f 1] Y H fun t =>
 (FF eg [s, t] H).bind fun o =>
 st 1 [.n, .f 13] Y o.1 o.2 fun w =>
 st 1 [.n, .f 6] Y (vi 16) w fun d =>
 ld [.n, .f 13] Y d fun y =>
 (ak .other .rem y (vw 2)).bind fun z =>
 (ak .other .eql z (vw 1)).bind fun A =>
 au A
 (st 1 [.n, .f 6] Y (vi 7) d fun B =>
 o8 x4 B)
 (o8 x4 d))
 ((ak .other .eql x8 (vi 16)).bind fun C =>
 au C
 (st 1 [.n, .f 6] Y (vi 17) H fun D =>
 (FF ej [Y] D).bind fun e =>
 (ak .other .eql e.1 (vi 2)).bind fun E =>
 au E
 (st 1 [.n, .f 6] Y (vi 3) e.2 fun G =>
 o8 x4 G)
 (o8 x4 e.2))
 ((ak .other .eql x8 (vi 17)).bind fun I =>
 au I
 ((FF bT [Y] H).bind fun c =>
 ad [.n, .f 1] Y fun g =>
 (aq g c.2).bind fun J =>
 bS (aq g H) (aq g c.2) <|
 (FF iz [c.1, J] c.2).bind fun p =>
 st 1 [.n, .f 12] Y p.1 p.2 fun K =>
 st 1 [.n, .f 16] Y Z K fun L =>
 st 1 [.n, .f 6] Y (vi 18) L fun i =>
 (FF bT [Y] i).bind fun a =>
 ad [.n, .f 11] Y fun j =>
 (aq j a.2).bind fun M =>
 bS (aq j i) (aq j a.2) <|
 ad [.n, .f 12] Y fun k =>
 (aq k a.2).bind fun N =>
 bS (aq k i) (aq k a.2) <|
 (FF iy [a.1, M, N] a.2).bind fun l =>
 (oW .not l.1).bind fun O =>
 au O
 (st 1 [.n, .f 6] Y (vi 7) l.2 fun P =>
 o8 x4 P)
 (o8 x4 l.2))
 ((ak .other .eql x8 (vi 18)).bind fun Q =>
 au Q
 (ld [.n, .f 0] Y H fun R =>
 ld [.n, .f 1] Y H fun S =>
 (FF eg [R, S] H).bind fun b =>
 ad [.n, .f 13] Y fun m =>
 (aq m b.2).bind fun T =>
 bS (aq m H) (aq m b.2) <|
 (ak .other .eql b.1 T).bind fun U =>
 au U
 (ld [.n, .f 16] Y b.2 fun V =>
 (FF bC [Y, V, (vi 9)] b.2).bind fun W =>
 some ((vb true), W.2))
 (st 1 [.n, .f 6] Y (vi 7) b.2 fun X =>
 o8 x4 X))
 (o8 x4 H)))) :=
 (bt rfl (Bz [1, 0, 1, 4]) 0 Rs (by kernel_rfl))
theorem sc : Yq Y Z x4 H =
 ld [.n, .f 6] Y H fun a =>
 Yr Y Z x4 a H :=
 (pt rfl 0 wP (pt rfl 0 Rq (by kernel_rfl)))
noncomputable def rTf : OV := bi PP GG FF (Bz []) (ls [Y, Z] 103) H p9 bP p9
theorem HT {r : Value × AH} (h : (
 Yq Y Z (vb false) H) = some r) : FF adK [Y, Z] H = some r :=
 fo (t := rTf Y Z H) Tryz.func108 (by kernel_rfl) (Eq.trans (pt rfl 0 Rp (by kernel_rfl)) h)
noncomputable def BA (p : List Nat) : Code := Code.sub (bQ Tryz.f109) p
noncomputable def qc : KK := eO PP (Tryz.f109).results.toList
noncomputable def Oa : KK := CQ (BA [1, 1]) qc bP qc
noncomputable def Yu : OV := Oa (ls [Y, Z, u, u, x4, x5] 113) H
noncomputable def F0 : KK := CQ (BA [1, 1, 1]) qc bP qc
noncomputable def N9 : KK := gY NI F0
noncomputable def qX : OV := F0 (ls [u, u, u, u, x4] 114) H
noncomputable def Oc : KK := CQ (BA [1, 1, 0, 1]) N9 bP qc
noncomputable def Yv : OV := Oc (ls [Y, Z, u, u, x4, x5, u, u, u, u, u, u, u, x13] 105) H
noncomputable def Z6 : KX := BX 0 N9 bP
theorem qd : av NI qc := rf
theorem Rt : av 664613997892457936451903530140172236 Oa := rc qd aE qd
theorem wQ : av NI F0 := rc qd aE qd
theorem Ru : av 664613997892457936451903530140164044 Oc := rc (cd wQ) aE qd
theorem Rv : ∀ i, av NI (Z6 i) := rb (cd wQ) aE
theorem lN : qX x4 H =
 some ((vb false), H) :=
 (by kernel_rfl)
theorem lO : Yv Y Z x4 x5 x13 H =
 (ak .other .eql x13 (vi 20)).bind fun i =>
 au i
 (ld [.n, .f 6] x5 H fun j =>
 ld [.n, .f 1] Y H fun k =>
 (FF ix [j, k] H).bind fun l =>
 st 1 [.n, .f 6] Y (vi 7) l.2 fun m =>
 qX x4 m)
 ((ak .other .eql x13 (vi 21)).bind fun o =>
 au o
 ((FF bT [Y] H).bind fun a =>
 ad [.n, .f 1] Y fun b =>
 (aq b a.2).bind fun p =>
 bS (aq b H) (aq b a.2) <|
 (FF fA [Y] a.2).bind fun d =>
 bS (aq b d.2) (aq b a.2) <|
 (FF iA [a.1, p, d.1] d.2).bind fun q =>
 st 1 [.n, .f 6] Y (vi 22) q.2 fun s =>
 qX x4 s)
 ((ak .other .eql x13 (vi 22)).bind fun t =>
 au t
 (ld [.n, .f 6] x5 H fun w =>
 ld [.n, .f 1] Y H fun y =>
 (FF kK [w, y, Z] H).bind fun g =>
 st 1 [.n, .f 15] Y g.1 g.2 fun z =>
 st 1 [.n, .f 6] Y (vi 23) z fun A =>
 qX x4 A)
 ((ak .other .eql x13 (vi 23)).bind fun B =>
 au B
 (ld [.n, .f 6] x5 H fun C =>
 ld [.n, .f 1] Y H fun D =>
 ld [.n, .f 10] Y H fun E =>
 ld [.n, .f 15] Y H fun G =>
 (FF jM [C, D, E, G] H).bind fun I =>
 st 1 [.n, .f 6] Y (vi 24) I.2 fun J =>
 qX x4 J)
 ((ak .other .eql x13 (vi 24)).bind fun K =>
 au K
 (st 1 [.n, .f 6] Y (vi 22) H fun c =>
 ld [.n, .f 6] x5 c fun L =>
 ld [.n, .f 1] Y c fun M =>
 ld [.n, .f 15] Y c fun N =>
 ld [.n, .f 10] Y c fun O =>
 (FF jN [L, M, Z, N, O] c).bind fun e =>
 au e.1
 (st 1 [.n, .f 6] Y (vi 25) e.2 fun P =>
 qX x4 P)
 (qX x4 e.2))
 ((ak .other .eql x13 (vi 25)).bind fun Q =>
 au Q
 (ld [.n, .f 6] x5 H fun R =>
 ld [.n, .f 1] Y H fun S =>
 (FF ix [R, S] H).bind fun T =>
 some ((vb true), T.2))
 (qX x4 H)))))) :=
 (bt rfl (BA [1, 1, 0, 1, 4]) 0 Rv (by kernel_rfl))
theorem lM : Yu Y Z x4 x5 H =
 ld [.n, .f 6] Y H fun a =>
 Yv Y Z x4 x5 a H :=
 (pt rfl 0 wQ (pt rfl 0 Ru (by kernel_rfl)))
noncomputable def rTw : OV := bi PP GG FF (BA []) (ls [Y, Z] 117) H qc bP qc
theorem xR {r : Value × AH} (h : (
 ld [.n, .f 0] Y H fun a =>
 Yu Y Z (vb false) a H) = some r) : FF XO [Y, Z] H = some r :=
 fo (t := rTw Y Z H) Tryz.func109 (by kernel_rfl) (Eq.trans (pt rfl 1 Rt (by kernel_rfl)) h)
end
end Go.Proofs.YtflbeghglllknaaGreatDoor.Gst
