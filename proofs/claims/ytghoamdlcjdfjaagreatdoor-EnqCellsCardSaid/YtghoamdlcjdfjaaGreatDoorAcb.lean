/- Several texts in one. -/
import Derived.Test.YtghoamdlcjdfjaaGreatDoorAca
namespace Go.Proofs.YtghoamdlcjdfjaaGreatDoor.Gst
open Go Go.RowKit
set_option linter.unusedSimpArgs false
def s6 (ops : List Oper) : Bool :=
 let ms := bL ops
 ops.zipIdx.all (fun p => p.1.after.toList.all fun e => !Region.binds .any e || decide (e.on < p.2)) &&
 ops.zipIdx.all fun q => (ops.zipIdx.take q.2).all fun p => fb ms p.2 q.2 || (p.1.apart ops.toArray q.1 && !(j5 p.1.op == 3 && j5 q.1.op == 3))
def db (ops : List Oper) : List (Nat × Nat) :=
 let ms := bL ops
 (ops.zipIdx.filter fun p => j5 p.1.op == 2).flatMap fun p => ((ops.zipIdx.filter fun q => j5 q.1.op == 3 && !fb ms q.2 p.2 && !fb ms p.2 q.2).map fun q => (p.2, q.2))
def jd (P : Program) (G : List Nat) (call : bg) (ops : Array Oper) (A : List Value) (H : AH) (i : Nat) : List Value × AH := (cG P G call ops (ops.toList.take i) A H).getD (A, H)
def jn (P : Program) (s : Nat → List Value × AH) (ops : Array Oper) (p : Nat × Nat) : Prop :=
 ∀ o, ops[p.1]? = some o → Av P (eF (s p.1).1) o.op (s (if p.2 < p.1 then p.2 else p.2 + 1)).2 = Av P (eF (s p.1).1) o.op (s p.1).2
open Classical in
noncomputable def Jq {α : Type} (p : Prop) (x : Option α) : Option α := if p then x else none
theorem nf {α : Type} {p : Prop} {x : Option α} {r : α} (h : Jq p x = some r) : p ∧ x = some r := by
 unfold Jq at h
 split at h
 ·exact ⟨by assumption, h⟩
 ·cases h
theorem jU {α : Type} {p : Prop} (h : p) (x : Option α) : Jq p x = x := by unfold Jq; rw [if_pos h]
noncomputable def l8 (P : Program) (G : List Nat) (call : bg) (ops : Array Oper) (A : List Value) (H : AH) : Option (List Value × AH) :=
 match s6 ops.toList with
 | false => none
 | true => match db ops.toList with
  | [] => cG P G call ops ops.toList A H
  | p :: ps => Jq (∀ q ∈ p :: ps, jn P (jd P G call ops A H) ops q) (cG P G call ops ops.toList A H)
theorem fH {P : Program} {G : List Nat} {call : bg} {ops : Array Oper} {A : List Value} {H : AH} {r : List Value × AH} (h : l8 P G call ops A H = some r) :
 s6 ops.toList = true ∧ (∀ p ∈ db ops.toList, jn P (jd P G call ops A H) ops p) ∧ cG P G call ops ops.toList A H = some r := by
 unfold l8 at h
 cases h1 : s6 ops.toList with
 | false => rw [h1] at h; cases h
 | true =>
  rw [h1] at h;refine ⟨rfl, ?_⟩
  cases h2 : db ops.toList with
  | nil => rw [h2] at h; exact ⟨fun p hp => (by cases hp), h⟩
  | cons p ps =>
   rw [h2] at h;exact nf h
section
variable {P : Program} {w0 : World} {B : Nat} {ρ : bv} {H : AH} {w : World} {G : List Nat} {call : bg} {ops : Array Oper}
theorem yh (l1 l2 : List Oper) (A : List Value) (H : AH) : cG P G call ops (l1 ++ l2) A H = (cG P G call ops l1 A H).bind fun s => cG P G call ops l2 s.1 s.2 := by
 induction l1 generalizing A H with
 | nil => rfl
 | cons o l ih =>
  simp only [List.cons_append, cG];rw [Option.bind_assoc]
  congr 1
  funext s
  exact ih s.1 s.2
theorem wm {A : List Value} {r : List Value × AH} (h : cG P G call ops ops.toList A H = some r) (i : Nat) : cG P G call ops (ops.toList.take i) A H = some (jd P G call ops A H i) := by
 unfold jd;have e : ops.toList = ops.toList.take i ++ ops.toList.drop i := (List.take_append_drop ..).symm;rw [e, yh] at h;obtain ⟨s, hs, _⟩ := aG.1 h;rw [hs]; rfl
theorem afU (A : List Value) : jd P G call ops A H 0 = (A, H) := rfl
theorem ajR {A : List Value} {r : List Value × AH} (h : cG P G call ops ops.toList A H = some r) : jd P G call ops A H ops.size = r := by
 unfold jd;rw [show ops.size = ops.toList.length by simp, List.take_length, h]
 rfl
theorem Lv {A : List Value} {r : List Value × AH} (h : cG P G call ops ops.toList A H = some r) {i : Nat} {o : Oper} (ho : ops[i]? = some o) :
 fI P G call ops o (jd P G call ops A H i).1 (jd P G call ops A H i).2 = some (jd P G call ops A H (i + 1)) := by
 have ho' : ops.toList[i]? = some o := by simpa using ho
 have h1 := wm h (i + 1);rw [List.take_add_one, ho', Option.toList_some, yh, wm h i] at h1;simp only [bo, cG] at h1;obtain ⟨s, hs, e⟩ := aG.1 h1;rw [hs];exact e
noncomputable def aoR (P : Program) (G : List Nat) (call : bg) (ops : Array Oper) (A : List Value) (H : AH) (i : Nat) : Value :=
 match ops[i]? with
 | some o => if Region.wanted o (cV ops (jd P G call ops A H i).1) = true then ((dK P call (eF (jd P G call ops A H i).1) o (jd P G call ops A H i).2).map (·.1)).getD undef else undef
 | none => undef
theorem O5 (h : s6 ops.toList = true) : ∀ j o, ops[j]? = some o → ∀ e ∈ o.after, Region.binds .any e = true → e.on < j := by
 intro j o ho e he hb;unfold s6 at h;simp only [Bool.and_eq_true, List.all_eq_true] at h
 have ho' : ops.toList[j]? = some o := by simpa using ho
 have hm : (o, j) ∈ ops.toList.zipIdx := by
  rw [List.mem_iff_getElem?];exact ⟨j, by rw [List.getElem?_zipIdx, ho']; simp⟩
 have := h.1 (o, j) hm e (by simpa using he)
 simpa [hb] using this
theorem O6 (h : s6 ops.toList = true) : ∀ i j oi oj, i < j → ops[i]? = some oi → ops[j]? = some oj → fb (bL ops.toList) i j = true ∨ (oi.apart ops oj = true ∧ ¬ (j5 oi.op = 3 ∧ j5 oj.op = 3)) := by
 intro i j oi oj hij hi hj;unfold s6 at h;simp only [Bool.and_eq_true, List.all_eq_true] at h
 have hi' : ops.toList[i]? = some oi := by simpa using hi
 have hj' : ops.toList[j]? = some oj := by simpa using hj
 have hm : (oj, j) ∈ ops.toList.zipIdx := by
  rw [List.mem_iff_getElem?];exact ⟨j, by rw [List.getElem?_zipIdx, hj']; simp⟩
 have hm2 : (oi, i) ∈ ops.toList.zipIdx.take j := by
  rw [List.mem_iff_getElem?];exact ⟨i, by rw [List.getElem?_take, if_pos hij, List.getElem?_zipIdx, hi']; simp⟩
 have := h.2 (oj, j) hm (oi, i) hm2;simp only [Bool.or_eq_true, Bool.and_eq_true, Bool.not_eq_true', Bool.and_eq_false_iff, beq_eq_false_iff_ne, Array.toArray_toList] at this
 rcases this with h1 | ⟨h1, h2⟩
 ·exact .inl h1
 ·exact .inr ⟨h1, fun h3 => by rcases h2 with h2 | h2; exact h2 h3.1; exact h2 h3.2⟩
theorem D4 {j e : Nat} {oj oe : Oper} (hj : ops[j]? = some oj) (he : ops[e]? = some oe) (h2 : j5 oj.op = 2) (h3 : j5 oe.op = 3) (hf1 : fb (bL ops.toList) e j = false) (hf2 : fb (bL ops.toList) j e = false) : (j, e) ∈ db ops.toList := by
 have hj' : ops.toList[j]? = some oj := by simpa using hj
 have he' : ops.toList[e]? = some oe := by simpa using he
 unfold db;simp only [List.mem_flatMap, List.mem_filter, List.mem_map];refine ⟨(oj, j), ⟨?_, by simp [h2]⟩, (oe, e), ⟨?_, by simp [h3, hf1, hf2]⟩, rfl⟩
 ·rw [List.mem_iff_getElem?]; exact ⟨j, by rw [List.getElem?_zipIdx, hj']; simp⟩
 ·rw [List.mem_iff_getElem?]; exact ⟨e, by rw [List.getElem?_zipIdx, he']; simp⟩
noncomputable def ak0 {A : List Value} {r : List Value × AH} (h : l8 P G call ops A H = some r) : Tra P G call ops where
 s := jd P G call ops A H
 val := aoR P G call ops A H
 step := fun i o ho => by
  obtain ⟨_, _, hr⟩ := fH h;have hs := Lv hr ho;unfold fI at hs
  split at hs
  ·rename_i hok
   refine ⟨hok, ?_⟩;unfold aoR;rw [ho];simp only
   split at hs
   ·rename_i hw
    obtain ⟨⟨v, H2⟩, hv, e⟩ := aN.1 hs;rw [if_pos hw, hv, ← e];exact ⟨rfl, .inl ⟨hw, rfl⟩⟩
   ·rename_i hw
    rw [if_neg hw];have e := (fi hs).symm;rw [e];exact ⟨rfl, .inr ⟨by simpa using hw, rfl, rfl⟩⟩
  ·cases hs
 back := O5 (fH h).1
 pair := O6 (fH h).1
 look := fun j e oj oe hj he h2 h3 hf1 hf2 => (fH h).2.1 (j, e) (D4 hj he h2 h3 hf1 hf2) oj hj
theorem Mx (hcall : lq P G call) (hmono : gy call) (hm : P.follows .mixedOrders = true) {id : Nat} {Q : Exit → Act → World → Prop} {A : List Value} {a : Act} {A' : List Value} {H' : AH} (h : l8 P G call ops A H = some (A', H'))
 (hA : bU P ρ A a) (hG : GlobRel ρ G) (hR : Rel P w0 B ρ H w) (hQ : ∀ a' w', An P w0 B G ρ H w A' H' a' w' → Q .normal a' w') : (Code.region id ops true).wp P Q a w := by
 have W : Way (ak0 h) w0 B ρ w.drew := ⟨hcall, hmono, hG, hR.drew, ⟨a, hA⟩⟩;refine O7 W hm (w := w) rfl hA (fun a' w' hp => hQ a' w' ?_);obtain ⟨ρ', h1, h2, h3, h4⟩ := hp;have e : (ak0 h).s ops.size = (A', H') := ajR (fH h).2.2;rw [e] at h1 h3 h4;exact ⟨ρ', h1, h2, ix.of_drew h3, h4⟩
end
inductive AE where
 | normal
 | exit (id : Nat)
 | ret
deriving DecidableEq
abbrev AR := AE × List Value × AH
def dU (f : List Value → AH → Option AR) : Nat → List Value → AH → Option AR
 | 0, _, _ => none
 | n + 1, A, H => (f A H).bind fun r => match r.1 with
  | .normal => dU f n r.2.1 r.2.2
  | _ => some r
theorem At {f : List Value → AH → Option AR} {n : Nat} {A : List Value} {H : AH} {r : AR} (h : dU f n A H = some r) : ∀ m, n ≤ m → dU f m A H = some r := by
 induction n generalizing A H with
 | zero => cases h
 | succ n ih =>
  intro m hm;obtain ⟨m, rfl⟩ : ∃ k, m = k + 1 := ⟨m - 1, by omega⟩;simp only [dU] at h ⊢;obtain ⟨s, hs, h⟩ := aG.1 h;rw [hs];simp only [bo]
  split at h
  ·exact ih h m (by omega)
  ·exact h
open Classical in
noncomputable def o7 (f : List Value → AH → Option AR) (A : List Value) (H : AH) : Option AR := if h : ∃ n r, dU f n A H = some r then some h.choose_spec.choose else none
theorem cF {f : List Value → AH → Option AR} {A : List Value} {H : AH} {r : AR} : o7 f A H = some r ↔ ∃ n, dU f n A H = some r := by
 unfold o7
 constructor
 ·intro h
  split at h
  ·rename_i hx
   cases h;exact ⟨_, hx.choose_spec.choose_spec⟩
  ·cases h
 ·rintro ⟨n, hn⟩
  have hx : ∃ n r, dU f n A H = some r := ⟨n, r, hn⟩;rw [dif_pos hx];have h1 := At hx.choose_spec.choose_spec (max n hx.choose) (Nat.le_max_right ..);have h2 := At hn (max n hx.choose) (Nat.le_max_left ..);rw [h2] at h1;exact h1.symm
theorem YV (f : List Value → AH → Option AR) (A : List Value) (H : AH) : o7 f A H = (f A H).bind fun r => match r.1 with | .normal => o7 f r.2.1 r.2.2 | _ => some r := by
 apply Option.ext;intro r;rw [cF]
 constructor
 ·rintro ⟨n, hn⟩
  cases n with
  | zero => cases hn
  | succ n =>
   simp only [dU] at hn;obtain ⟨s, hs, h⟩ := aG.1 hn;rw [hs];simp only [bo]
   split at h
   ·exact cF.2 ⟨n, h⟩
   ·exact h
 ·intro h
  obtain ⟨s, hs, h⟩ := aG.1 h
  split at h
  ·rename_i e
   obtain ⟨n, hn⟩ := cF.1 h;refine ⟨n + 1, ?_⟩;simp only [dU, hs, bo, e];exact hn
  ·rename_i e
   refine ⟨1, ?_⟩;simp only [dU, hs, bo];exact h
noncomputable def ft (P : Program) (G : List Nat) (call : bg) (ops : Array Oper) (draw : Bool) (A : List Value) (H : AH) : Option (List Value × AH) :=
 match draw with
 | true => l8 P G call ops A H
 | false => cG P G call ops ops.toList A H
noncomputable def aK (P : Program) (G : List Nat) (call : bg) : Code → List Value → AH → Option AR
 | .skip, A, H => some (.normal, A, H)
 | .label _, A, H => some (.normal, A, H)
 | .region _ ops draw, A, H => (ft P G call ops draw A H).map fun s => (.normal, s.1, s.2)
 | .seq x y, A, H => (aK P G call x A H).bind fun r => match r.1 with
  | .normal => aK P G call y r.2.1 r.2.2
  | _ => some r
 | .cond c x y, A, H => match eF A c with
  | .bool true => aK P G call x A H
  | .bool false => aK P G call y A H
  | _ => none
 | .block id x, A, H => (aK P G call x A H).map fun r => match r.1 with
  | .exit i => if i = id then (.normal, r.2.1, r.2.2) else r
  | _ => r
 | .loop x, A, H => o7 (aK P G call x) A H
 | .exit id, A, H => some (.exit id, A, H)
 | .ret, A, H => some (.ret, A, H)
 | _, _, _ => none
def AE.to : AE → Exit
 | .normal => .normal
 | .exit id => .exit id
 | .ret => .ret
section
variable {P : Program} {w0 : World} {B : Nat} {G : List Nat} {call : bg}
theorem An.trans {ρ ρ1 : bv} {H H1 H2 : AH} {w w1 w2 : World} {A2 : List Value} {a2 : Act} (hR : Rel P w0 B ρ H w) (hE : ix ρ H w ρ1 H1 w1) (h : An P w0 B G ρ1 H1 w1 A2 H2 a2 w2) : An P w0 B G ρ H w A2 H2 a2 w2 := by
 obtain ⟨ρ', h1, h2, h3, h4⟩ := h;exact ⟨ρ', h1, h2, hE.trans hR h3, h4⟩
theorem AW (hcall : lq P G call) (hmono : gy call) (hm : P.follows .mixedOrders = true) : ∀ (c : Code) {Q : Exit → Act → World → Prop} {ρ : bv} {A : List Value} {H : AH} {a : Act} {w : World} {e : AE} {A' : List Value} {H' : AH},
 aK P G call c A H = some (e, A', H') → bU P ρ A a → GlobRel ρ G → Rel P w0 B ρ H w → (∀ a' w', An P w0 B G ρ H w A' H' a' w' → Q e.to a' w') → c.wp P Q a w := by
 intro c
 induction c with
 | skip =>
  intro Q ρ A H a w e A' H' h hA hG hR hQ;simp only [aK] at h; cases h;exact wp_skip (hQ a w ⟨ρ, hA, hG, ix.refl _ _ _, hR⟩)
 | label l =>
  intro Q ρ A H a w e A' H' h hA hG hR hQ;simp only [aK] at h; cases h;exact wp_label (hQ a w ⟨ρ, hA, hG, ix.refl _ _ _, hR⟩)
 | exit id =>
  intro Q ρ A H a w e A' H' h hA hG hR hQ;simp only [aK] at h; cases h;exact wp_exit (hQ a w ⟨ρ, hA, hG, ix.refl _ _ _, hR⟩)
 | ret =>
  intro Q ρ A H a w e A' H' h hA hG hR hQ;simp only [aK] at h; cases h;exact wp_ret (hQ a w ⟨ρ, hA, hG, ix.refl _ _ _, hR⟩)
 | region id ops draw =>
  intro Q ρ A H a w e A' H' h hA hG hR hQ;simp only [aK] at h;obtain ⟨⟨A1, H1⟩, hs, e1⟩ := aN.1 h;cases e1
  cases draw with
  | true => exact Mx hcall hmono hm hs hA hG hR hQ
  | false => exact K9 hcall hs hA hG hR hQ
 | seq x y ihx ihy =>
  intro Q ρ A H a w e A' H' h hA hG hR hQ;simp only [aK] at h;obtain ⟨⟨e1, A1, H1⟩, hx, h⟩ := aG.1 h;refine wp_seq (ihx hx hA hG hR (fun a1 w1 hp => ?_))
  cases e1 with
  | normal =>
   simp only at h;obtain ⟨ρ1, hA1, hG1, hE1, hR1⟩ := hp;exact ihy h hA1 hG1 hR1 (fun a' w' hp => hQ a' w' (hp.trans hR hE1))
  | exit id => simp only at h; cases h; exact hQ a1 w1 hp
  | ret => simp only at h; cases h; exact hQ a1 w1 hp
 | cond c x y ihx ihy =>
  intro Q ρ A H a w e A' H' h hA hG hR hQ;simp only [aK] at h
  have hc : ∀ t, eF A c = .bool t → a.eval c = .bool t := by
   intro t ht
   cases c with
   | tmp u =>
    simp only [eF] at ht
    cases hx : A[u]? with
    | none => rw [hx] at ht; simp [undef] at ht
    | some x =>
     rw [hx] at ht;simp only [Option.getD_some] at ht;subst ht;obtain ⟨y, hy, hv⟩ := hA.tmps.get hx;rw [Array.getElem?_toList] at hy;simp only [Act.eval, Array.getD_eq_getD_getElem?, hy, Option.getD_some];exact hv.bool_inv
   | const v => exact ht
   | global g => cases ht
   | func f => cases ht
  split at h
  ·rename_i ht; exact wp_cond (hc _ ht) (ihx h hA hG hR hQ)
  ·rename_i ht; exact wp_cond (hc _ ht) (ihy h hA hG hR hQ)
  ·cases h
 | block id x ih =>
  intro Q ρ A H a w e A' H' h hA hG hR hQ;simp only [aK] at h;obtain ⟨⟨e1, A1, H1⟩, hx, e2⟩ := aN.1 h;refine wp_block (ih hx hA hG hR (fun a1 w1 hp => ?_))
  cases e1 with
  | normal => simp only at e2; cases e2; exact hQ a1 w1 hp
  | ret => simp only at e2; cases e2; exact hQ a1 w1 hp
  | exit i =>
   simp only at e2;simp only [AE.to, Exit.inBlock]
   split at e2
   ·rename_i hi; cases e2; rw [if_pos hi]; exact hQ a1 w1 hp
   ·rename_i hi; cases e2; rw [if_neg hi]; exact hQ a1 w1 hp
 | loop x ih =>
  intro Q ρ A H a w e A' H' h hA hG hR hQ;simp only [aK] at h;obtain ⟨n, hn⟩ := cF.1 h;refine wp_loop_rounds n ?_
  clear h
  induction n generalizing ρ A H a w with
  | zero => cases hn
  | succ n ihn =>
   simp only [dU] at hn;obtain ⟨⟨e1, A1, H1⟩, hx, h⟩ := aG.1 hn;rw [rounds_succ];refine ih hx hA hG hR (fun a1 w1 hp => ?_)
   cases e1 with
   | normal =>
    simp only at h;obtain ⟨ρ1, hA1, hG1, hE1, hR1⟩ := hp;exact ihn hA1 hG1 hR1 (fun a' w' hp => hQ a' w' (hp.trans hR hE1)) h
   | exit id => simp only at h; cases h; exact hQ a1 w1 hp
   | ret => simp only at h; cases h; exact hQ a1 w1 hp
 | rangeFunc f ps x y => intro Q ρ A H a w e A' H' h; simp [aK] at h
 | scope x => intro Q ρ A H a w e A' H' h; simp [aK] at h
 | goto l => intro Q ρ A H a w e A' H' h; simp [aK] at h
 | refuse s => intro Q ρ A H a w e A' H' h; simp [aK] at h
theorem rq (hm : gy call) {ops : Array Oper} : ∀ (l : List Oper) {A : List Value} {H : AH} {r : List Value × AH}, cG P G call ops l A H = some r → H.size ≤ r.2.size := by
 intro l
 induction l with
 | nil => intro A H r h; simp only [cG] at h; cases h; exact bj _
 | cons o l ih =>
  intro A H r h;simp only [cG] at h;obtain ⟨s, hs, h⟩ := aG.1 h;refine dZ ?_ (ih h);unfold fI at hs
  split at hs
  ·split at hs
   ·obtain ⟨⟨v, H2⟩, hv, e⟩ := aN.1 hs
    cases e; exact Ja hm hv
   ·cases hs; exact bj _
  ·cases hs
theorem Aq (hm : gy call) : ∀ (c : Code) {A : List Value} {H : AH} {r : AR}, aK P G call c A H = some r → H.size ≤ r.2.2.size := by
 intro c
 induction c with
 | skip => intro A H r h; simp only [aK] at h; cases h; exact bj _
 | label l => intro A H r h; simp only [aK] at h; cases h; exact bj _
 | exit id => intro A H r h; simp only [aK] at h; cases h; exact bj _
 | ret => intro A H r h; simp only [aK] at h; cases h; exact bj _
 | region id ops draw =>
  intro A H r h;simp only [aK] at h;obtain ⟨s, hs, e1⟩ := aN.1 h;cases e1
  cases draw with
  | true => exact rq hm _ (fH hs).2.2
  | false => exact rq hm _ hs
 | seq x y ihx ihy =>
  intro A H r h;simp only [aK] at h;obtain ⟨s, hx, h⟩ := aG.1 h;have h1 := ihx hx
  split at h
  ·exact dZ h1 (ihy h)
  ·cases h; exact h1
 | cond c x y ihx ihy =>
  intro A H r h;simp only [aK] at h
  split at h
  ·exact ihx h
  ·exact ihy h
  ·cases h
 | block id x ih =>
  intro A H r h;simp only [aK] at h;obtain ⟨s, hx, e2⟩ := aN.1 h;have h1 := ih hx
  split at e2
  ·split at e2 <;> (subst e2; exact h1)
  ·subst e2; exact h1
 | loop x ih =>
  intro A H r h;simp only [aK] at h;obtain ⟨n, hn⟩ := cF.1 h
  clear h
  induction n generalizing A H with
  | zero => cases hn
  | succ n ihn =>
   simp only [dU] at hn;obtain ⟨s, hx, h⟩ := aG.1 hn;have h1 := ih hx
   split at h
   ·exact dZ h1 (ihn h)
   ·cases h; exact h1
 | rangeFunc f ps x y => intro A H r h; simp [aK] at h
 | scope x => intro A H r h; simp [aK] at h
 | goto l => intro A H r h; simp [aK] at h
 | refuse s => intro A H r h; simp [aK] at h
end
def kF (P : Program) (A : List Value) (H : AH) : ResultVar → Option Value
 | .tmp t => some (A[t]?.getD undef)
 | .cell a t => (eD P t).bind fun g => match g with
  | some n => aC n (A[a]?.getD undef) H
  | none => au (A[a]?.getD undef) H
def sD (P : Program) (A : List Value) (H : AH) : List ResultVar → Option (List Value)
 | [] => some []
 | r :: rs => (kF P A H r).bind fun v => (sD P A H rs).bind fun vs => some (v :: vs)
def iB (P : Program) (A : List Value) (H : AH) (rs : List ResultVar) : Option Value := (sD P A H rs).map fun vs => match vs with
 | [v] => v
 | vs => .tuple vs.toArray
def YU (P : Program) (rs : List ResultVar) (r : AR) : Option (Value × AH) :=
 match r.1 with
 | .exit _ => none
 | _ => (iB P r.2.1 r.2.2 rs).map (·, r.2.2)
noncomputable def o6 (P : Program) (G : List Nat) (call : bg) (n : Nat) (rs : List ResultVar) (c : Code) (args : List Value) (H : AH) : Option (Value × AH) :=
 (aK P G call c (args ++ List.replicate (n - args.length) undef) H).bind (YU P rs)
structure DSh where
 c1 : Code
 id2 : Nat
 ops2 : Array Oper
 om : Oper
 df : Oper
 t : Nat
 k : Nat
 id3 : Nat
 ops3 : Array Oper
def j7 : Code → Option DSh
 | .seq c1 (.seq (.region id2 ops2 false) (.seq (.region id3 ops3 false) .ret)) => match ops2.toList with
  | [mk, df] => match mk.dst, mk.op, mk.guard, df.dst, df.op, df.guard with
   | some t, .makeFunc (.func k) first _, none, none, .defer ⟨.value (.tmp t'), args, _⟩, none => if t = t' ∧ first = #[] ∧ args = #[] then some ⟨c1, id2, ops2, mk, df, t, k, id3, ops3⟩ else none
   | _, _, _, _, _, _ => none
  | _ => none
 | _ => none
theorem Jv {c : Code} {s : DSh} (h : j7 c = some s) : c = .seq s.c1 (.seq (.region s.id2 s.ops2 false) (.seq (.region s.id3 s.ops3 false) .ret)) ∧ s.ops2.toList = [s.om, s.df] ∧ s.om.dst = some s.t ∧
 (∃ cap, s.om.op = .makeFunc (.func s.k) #[] cap) ∧ s.om.guard = none ∧ s.df.dst = none ∧ (∃ ats, s.df.op = .defer ⟨.value (.tmp s.t), #[], ats⟩) ∧ s.df.guard = none := by
 unfold j7 at h
 split at h
 ·split at h
  ·rename_i hl
   split at h
   ·rename_i h1 h2 h3 h4 h5 h6
    split at h
    ·rename_i hc
     obtain ⟨rfl, rfl, rfl⟩ := hc;cases h;exact ⟨rfl, hl, h1, ⟨_, h2⟩, h3, h4, ⟨_, h5⟩, h6⟩
    ·cases h
   ·cases h
  ·cases h
 ·cases h
def ug (P : Program) (k : Nat) : Prop :=
 (∃ fn, P.funcs[k]? = some fn ∧ fn.body.isSome = true ∧ fn.name ≠ "runtime.NumGoroutine") ∧
 ∀ (args : Array Value) (w : World), CallsD P k args .returning w fun e u' w' => (∃ v, e = .returned v) ∧ u' = .returning ∧ w' = w
noncomputable def n7 (P : Program) (G : List Nat) (call : bg) (n : Nat) (rs : List ResultVar) (s : DSh) (args : List Value) (H : AH) : Option (Value × AH) :=
 (aK P G call s.c1 (args ++ List.replicate (n - args.length) undef) H).bind fun r => match r.1 with
  | .normal => if r.2.1.length ≤ s.t then none else (fI P G call s.ops2 s.om r.2.1 r.2.2).bind fun q => (cG P G call s.ops3 s.ops3.toList q.1 q.2).bind fun z => (iB P z.1 z.2 rs).map (·, z.2)
  | _ => none
noncomputable def eC (P : Program) (G : List Nat) : Nat → bg
 | 0 => fun _ _ _ => none
 | d + 1 => fun f args H => match P.funcs[f]? with
  | some fn => if fn.name = "runtime.NumGoroutine" then none else match fn.body with
   | some c => match j7 c with
    | none => o6 P G (eC P G d) fn.ntmps fn.results.toList c args H
    | some s => Jq (ug P s.k) (n7 P G (eC P G d) fn.ntmps fn.results.toList s args H)
   | none => none
  | none => none
section
variable {P : Program} {w0 : World} {B : Nat} {ρ : bv} {H : AH} {w : World} {G : List Nat} {call : bg}
theorem Pc {A : List Value} {a : Act} (hA : bU P ρ A a) (hR : Rel P w0 B ρ H w) {r : ResultVar} {v : Value} (h : kF P A H r = some v) :
 ∃ v', (match r with | .tmp t => pure (a.tmps.getD t undef) | .cell x t => do loadVar t (← asAddr (a.tmps.getD x undef)) : Sem Value).run P w = .ok v' w ∧ VRel P ρ v v' := by
 have slot : ∀ t, VRel P ρ (A[t]?.getD undef) (a.tmps.getD t undef) := fun t => wJ (G := []) hA (fun g hg => by simp at hg) (x := .tmp t) rfl
 cases r with
 | tmp t => simp only [kF] at h; cases h; exact ⟨_, rfl, slot t⟩
 | cell x t =>
  simp only [kF] at h;obtain ⟨g, hg, h⟩ := aG.1 h
  cases g with
  | none =>
   obtain ⟨a', y', ha, hr, hv⟩ := ac0 hR h (slot x);refine ⟨y', ?_, hv⟩;simp only [ha];simp [asAddr, loadVar, n8 hg]
   simpa using hr
  | some n =>
   obtain ⟨a', ys, ha, hr, hv⟩ := Ky hR h (slot x);obtain ⟨hag, hsz⟩ := n9 hg w;refine ⟨.agg ys, ?_, hv⟩;simp only [ha];simp [asAddr, loadVar, hag, cA hsz, hr]
theorem ac6 {A : List Value} {a : Act} (hA : bU P ρ A a) (hR : Rel P w0 B ρ H w) : ∀ {rs : List ResultVar} {vs : List Value}, sD P A H rs = some vs →
 ∃ vs', (rs.mapM (fun r => (match r with | .tmp t => pure (a.tmps.getD t undef) | .cell x t => do loadVar t (← asAddr (a.tmps.getD x undef)) : Sem Value))).run P w = .ok vs' w ∧ LRel P ρ vs vs' := by
 intro rs
 induction rs with
 | nil => intro vs h; simp only [sD] at h; cases h; exact ⟨[], rfl, LRel.nil⟩
 | cons r rs ih =>
  intro vs h;simp only [sD] at h;obtain ⟨v, hv, h⟩ := aG.1 h;obtain ⟨vs0, hvs, h⟩ := aG.1 h;cases h;obtain ⟨v', hr, hv'⟩ := Pc hA hR hv;obtain ⟨vs', hrs, hvs'⟩ := ih hvs;refine ⟨v' :: vs', ?_, hvs'.cons hv'⟩;rw [List.mapM_cons];simp only [Sem.run_bind, hr, Result.andThen_ok, hrs, Sem.run_pure]
theorem yF {A : List Value} {a : Act} (hA : bU P ρ A a) (hR : Rel P w0 B ρ H w) {fn : Func} {v : Value} (h : iB P A H fn.results.toList = some v) :
 ∃ v', (results fn a.tmps).run P w = .ok v' w ∧ VRel P ρ v v' := by
 unfold iB at h;obtain ⟨vs, hvs, e⟩ := aN.1 h;obtain ⟨vs', hrun, hl⟩ := ac6 hA hR hvs
 have hm : ∀ g : ResultVar → Sem Value, (fn.results.mapM g).run P w = ((fn.results.toList.mapM g >>= fun l => pure l.toArray : Sem (Array Value))).run P w := by
  intro g;rw [Array.mapM_eq_mapM_toList]
  rfl
 have h2 : (results fn a.tmps).run P w = .ok (if h : vs'.toArray.size = 1 then vs'.toArray[0] else .tuple vs'.toArray) w := by
  unfold results;rw [Sem.run_bind, hm, Sem.run_bind]
  erw [hrun]
  rfl
 refine ⟨_, h2, ?_⟩;have hlen := hl.1
 split at e
 ·rename_i x
  subst e
  match vs', hlen, hl with
  | [y], _, hl => simpa using hl.2 0 _ _ rfl rfl
 ·rename_i hne
  subst e
  have : ¬ vs'.toArray.size = 1 := by
   intro h1
   match vs, hlen, hne with
   | [x], _, hne => exact hne x rfl
   | [], hlen, _ => simp at hlen h1; omega
   | x :: y :: zs, hlen, _ => simp at hlen h1; omega
  rw [dif_neg this];exact .tuple (by simp [hlen]) (fun i x y hx hy => hl.2 i x y (by simpa using hx) (by simpa using hy))
theorem Om (hcall : lq P G call) {ops : Array Oper} (ds : List Deferred) {Q : Exit → Act → World → Prop} : ∀ (l : List Oper) {ρ : bv} {A : List Value} {H : AH} {a : Act} {w : World} {A' : List Value} {H' : AH}, cG P G call ops l A H = some (A', H') →
 bU P ρ A a → GlobRel ρ G → Rel P w0 B ρ H w → (∀ a' w', An P w0 B G ρ H w A' H' a' w' → Q .normal { a' with defers := ds } w') → wpList P ops Q l { a with defers := ds } w := by
 intro l
 induction l with
 | nil =>
  intro ρ A H a w A' H' h hA hG hR hQ;simp only [cG] at h;cases h;exact hQ a w ⟨ρ, hA, hG, ix.refl _ _ _, hR⟩
 | cons o rest ih =>
  intro ρ A H a w A' H' h hA hG hR hQ;simp only [cG] at h;obtain ⟨⟨A1, H1⟩, hs, h⟩ := aG.1 h;simp only at h;unfold fI at hs
  split at hs
  ·rename_i hok
   unfold wpList;have hwr := ub hA ops o;rw [show Region.wanted o (yielded ops ({ a with defers := ds } : Act).tmps) = Region.wanted o (cV ops A) from hwr]
   split at hs
   ·rename_i hw
    rw [if_pos hw];obtain ⟨⟨v, H2⟩, ho, e⟩ := aN.1 hs;cases e;have hr := vq hcall hA hG hR hok ho;refine .inl (dS.wp (a := { a with defers := ds }) (dS.congr hr rfl) (fun v' w' hv => ?_));obtain ⟨ρ', hv, hE, hR'⟩ := hv;have := ih (a := a.put o.dst v') h (jP (hA.mono hE.le) o.dst hv) (hG.mono hE.le) hR' (fun a' w'' hp => hQ a' w'' (hp.trans hR hE))
    have e : ({ a.put o.dst v' with defers := ds } : Act) = ({ a with defers := ds } : Act).put o.dst v' := by cases o.dst <;> rfl
    rw [e] at this;exact this
   ·rename_i hw
    rw [if_neg hw];cases hs;have := ih (a := a.put o.dst undef) h (jP hA o.dst VRel.undef) hG hR hQ
    have e : ({ a.put o.dst undef with defers := ds } : Act) = ({ a with defers := ds } : Act).put o.dst undef := by cases o.dst <;> rfl
    rw [e] at this;exact this
  ·cases hs
theorem Ju (hcall : lq P G call) (hmono : gy call) (hm : P.follows .mixedOrders = true) {f : Nat} {fn : Func} {c : Code} {s : DSh} (hf : P.funcs[f]? = some fn) (hb : fn.body = some c) (hd : j7 c = some s)
 {args : List Value} {args' : Array Value} {v : Value} {H' : AH} (h : Jq (ug P s.k) (n7 P G call fn.ntmps fn.results.toList s args H) = some (v, H'))
 (hA : bU P ρ (args ++ List.replicate (fn.ntmps - args.length) undef) { tmps := args' ++ Array.replicate (fn.ntmps - args'.size) undef, defers := [] }) (hG : GlobRel ρ G) (hR : Rel P w0 B ρ H w) :
 Calls P f args' w fun e w' => ∃ v' ρ', e = .returned v' ∧ VRel P ρ' v v' ∧ ix ρ H w ρ' H' w' ∧ Rel P w0 B ρ' H' w' := by
 obtain ⟨⟨⟨fk, hfk, hbk, hnk⟩, hcd⟩, h⟩ := nf h;obtain ⟨hc, hl2, hdst, ⟨cap, hop⟩, hg, hdd, ⟨ats, hdo⟩, hdg⟩ := Jv hd;unfold n7 at h;obtain ⟨⟨e1, A1, H1⟩, h1, h⟩ := aG.1 h
 cases e1 with
 | exit i => cases h
 | ret => cases h
 | normal =>
  simp only at h
  split at h
  ·cases h
  rename_i hlt
  obtain ⟨⟨A2, H2⟩, h2, h⟩ := aG.1 h;obtain ⟨⟨A3, H3⟩, h3, h⟩ := aG.1 h;obtain ⟨x, hx, e⟩ := aN.1 h;cases e;refine calls_of_wp_defers hf hb ?_;rw [hc];refine wp_seq (AW hcall hmono hm s.c1 h1 hA hG hR (fun a1 w1 hp => ?_));obtain ⟨ρ1, hA1, hG1, hE1, hR1⟩ := hp;refine wp_seq (wp_region_list ?_);rw [hl2];have hd1 : a1.defers = [] := hA1.defers;unfold fI at h2
  split at h2
  ·rename_i hok
   have hwt : Region.wanted s.om (cV s.ops2 A1) = true := by simp [Region.wanted, hg]
   rw [if_pos hwt] at h2;obtain ⟨⟨y, H2'⟩, ho, e⟩ := aN.1 h2;cases e;refine wpList_plain hg (fun K hK => dS.wp (vq hcall hA1 hG1 hR1 hok ho) (fun v' w2 hv => hK _ _ ?_));obtain ⟨ρ2, hv, hE2, hR2⟩ := hv
   have hy : y = .func (.func s.k) #[] (cap.map (eF A1)) := by
    unfold dK at ho;rw [hop] at ho;simp at ho;exact ho.1.symm
   rw [hy] at hv;obtain ⟨f', c', rfl, hf', _⟩ := hv.func_inv
   have hf0 : f' = #[] := by
    have := hf'.1;simp at this;exact Array.eq_empty_of_size_eq_zero (by simpa using this.symm)
   subst hf0;refine wpList_plain hdg (fun K' hK' => ?_)
   have ht : (a1.put s.om.dst (.func (.func s.k) #[] c')).eval (.tmp s.t) = .func (.func s.k) #[] c' := by
    have hsz : s.t < a1.tmps.size := by have := hA1.tmps.1; simp at this; omega
    rw [hdst];simp [Act.put, Act.eval, hsz, Array.getD]
   have hrun : (execOp (a1.put s.om.dst (.func (.func s.k) #[] c')).eval s.df).run P w2 = .ok (.defer { target := .fn (.func s.k) c', args := #[] }) w2 := by
    simp [execOp, hdo, resolve, ht, Deferred.ofValue]
   unfold Oper.wp;rw [hrun, Oper.upon_defer];refine hK' _ _ (wpList_nil ?_);rw [hdd];have hA2 := jP (hA1.mono hE2.le) s.om.dst hv
   have hpd : ∀ (a : Act) (d : Option Tmp) (x : Value), (a.put d x).defers = a.defers := by intro a d x; cases d <;> rfl
   have e : ({ a1.put s.om.dst (.func (.func s.k) #[] c') with defers := { target := .fn (.func s.k) c', args := #[] } :: (a1.put s.om.dst (.func (.func s.k) #[] c')).defers } : Act).put none undef
    = { a1.put s.om.dst (.func (.func s.k) #[] c') with defers := [{ target := .fn (.func s.k) c', args := #[] }] } := by
    rw [hpd, hd1]; rfl
   rw [e];show (Code.seq (.region s.id3 s.ops3 false) .ret).wp P _ _ _;rw [hy] at h3;refine wp_seq (wp_region_list (Om hcall _ _ h3 hA2 (hG1.mono hE2.le) hR2 (fun a3 w3 hp => ?_)));obtain ⟨ρ3, hA3, hG3, hE3, hR3⟩ := hp;refine wp_ret ?_;obtain ⟨v3, hr3, hv3⟩ := yF hA3 hR3 hx
   have hbn : ¬ (fk.body = none) := by intro hb; rw [hb] at hbk; cases hbk
   refine leaves_cons (f := s.k) (args := c') (by simp) (by simp [invoke, callFunc, hfk, hnk, hbn]) (CallsD.mono (hcd _ _) ?_)
   rintro e' u' w' ⟨⟨v0, rfl⟩, rfl, rfl⟩
   exact ⟨v3, hr3, v3, ρ3, rfl, hv3, hE1.trans hR (hE2.trans hR1 hE3), hR3⟩
  ·cases h2
theorem I9 (hm : gy call) {n : Nat} {rs : List ResultVar} {s : DSh} {args : List Value} {v : Value} {H' : AH} (h : n7 P G call n rs s args H = some (v, H')) : H.size ≤ H'.size := by
 unfold n7 at h;obtain ⟨⟨e1, A1, H1⟩, h1, h⟩ := aG.1 h
 cases e1 with
 | exit i => cases h
 | ret => cases h
 | normal =>
  simp only at h
  split at h
  ·cases h
  obtain ⟨⟨A2, H2⟩, h2, h⟩ := aG.1 h;obtain ⟨⟨A3, H3⟩, h3, h⟩ := aG.1 h;obtain ⟨x, hx, e⟩ := aN.1 h;cases e;have g1 := Aq hm _ h1;have g2 : H1.size ≤ H2.size := rq (P := P) (G := G) (call := call) hm [s.om] (ops := s.ops2) (A := A1) (H := H1) (r := (A2, H2)) (by simp [cG, h2]);have g3 := rq hm _ h3;simp only at g1 g3;exact dZ g1 (dZ g2 g3)
theorem AU (hm : P.follows .mixedOrders = true) : ∀ d, lq P G (eC P G d) ∧ gy (eC P G d) := by
 intro d
 induction d with
 | zero => exact ⟨fun f args H v H' h => (by cases h), fun f args H v H' h => (by cases h)⟩
 | succ d ih =>
  constructor
  ·intro f args H v H' h
   simp only [eC] at h
   cases hf : P.funcs[f]? with
   | none => rw [hf] at h; cases h
   | some fn =>
    rw [hf] at h;simp only at h
    split at h
    ·cases h
    ·rename_i hname
     cases hb : fn.body with
     | none => rw [hb] at h; cases h
     | some c =>
      rw [hb] at h;simp only at h;refine ⟨⟨fn, rfl, by rw [hb]; rfl, hname⟩, fun w0 B ρ w args' hR hG hargs => ?_⟩
      have hA : bU P ρ (args ++ List.replicate (fn.ntmps - args.length) undef) { tmps := args'.toArray ++ Array.replicate (fn.ntmps - args'.toArray.size) undef, defers := [] } := by
       refine ⟨?_, rfl⟩;simp only [Array.toList_append, Array.toList_replicate, List.size_toArray];rw [hargs.1];refine hargs.append ⟨rfl, fun i x y hx hy => ?_⟩;rw [hx] at hy;cases hy;rw [List.getElem?_replicate] at hx
       split at hx
       ·cases hx; exact VRel.undef
       ·cases hx
      cases hd : j7 c with
      | some s => rw [hd] at h; exact Ju ih.1 ih.2 hm hf hb hd h hA hG hR
      | none =>
      rw [hd] at h;simp only [o6] at h;obtain ⟨⟨e, A', H2⟩, hc, h⟩ := aG.1 h;refine calls_of_wp hf hb ?_;refine AW ih.1 ih.2 hm c hc hA hG hR (fun a' w' hp => ?_);obtain ⟨ρ', hA', hG', hE, hR'⟩ := hp
      have fin : ∀ {x : Value} {H3 : AH}, (iB P A' H2 fn.results.toList).map (·, H2) = some (x, H3) → a'.defers = [] ∧ ∃ v', (results fn a'.tmps).run P w' = .ok v' w' ∧ ∃ v'' ρ'', Ending.returned v' = .returned v'' ∧ VRel P ρ'' x v'' ∧ ix ρ H w ρ'' H3 w' ∧ Rel P w0 B ρ'' H3 w' := by
       intro x H3 hx;obtain ⟨y, hy, e⟩ := aN.1 hx;cases e;obtain ⟨v', hr, hv⟩ := yF hA' hR' hy;exact ⟨hA'.defers, v', hr, v', ρ', rfl, hv, hE, hR'⟩
      cases e with
      | normal => exact fin h
      | ret => exact fin h
      | exit i => cases h
  ·intro f args H v H' h
   simp only [eC] at h
   cases hf : P.funcs[f]? with
   | none => rw [hf] at h; cases h
   | some fn =>
    rw [hf] at h;simp only at h
    split at h
    ·cases h
    ·cases hb : fn.body with
     | none => rw [hb] at h; cases h
     | some c =>
      rw [hb] at h;simp only [o6] at h
      cases hd : j7 c with
      | some s =>
       rw [hd] at h;obtain ⟨_, h⟩ := nf h;exact I9 ih.2 h
      | none =>
      rw [hd] at h;simp only at h;obtain ⟨⟨e, A', H2⟩, hc, h⟩ := aG.1 h;have h1 := Aq ih.2 c hc;unfold YU at h
      split at h
      ·cases h
      ·obtain ⟨y, hy, e⟩ := aN.1 h
       cases e; exact h1
end
def YN (c1 c2 : bg) : Prop := ∀ f args H r, c1 f args H = some r → c2 f args H = some r
section
variable {P : Program} {G : List Nat} {c1 c2 : bg}
theorem alJ (h : YN c1 c2) {ev : Operand → Value} {o : Oper} {H : AH} {r : Value × AH} (hr : dK P c1 ev o H = some r) : dK P c2 ev o H = some r := by
 obtain ⟨dst, op, type, pos, after, guard⟩ := o
 cases op with
 | call c =>
  obtain ⟨callee, args, ats⟩ := c
  cases callee with
  | value f =>
   simp only [dK] at hr ⊢;obtain ⟨x, hx, hr⟩ := aG.1 hr;rw [hx];exact h _ _ _ _ hr
  | invoke r m => exact hr
  | builtin b => exact hr
 | makeMap t r => cases r <;> exact hr
 | slice t x lo hi mx => cases lo <;> cases hi <;> cases mx <;> exact hr
 | _ => exact hr
theorem Aw (h : YN c1 c2) {ops : Array Oper} {o : Oper} {A : List Value} {H : AH} {r : List Value × AH} (hr : fI P G c1 ops o A H = some r) : fI P G c2 ops o A H = some r := by
 unfold fI at hr ⊢
 split at hr
 ·rename_i hok
  rw [if_pos hok]
  split at hr
  ·rename_i hw
   rw [if_pos hw];obtain ⟨x, hx, e⟩ := aN.1 hr;rw [alJ h hx];exact congrArg some e
  ·rename_i hw
   rw [if_neg hw];exact hr
 ·cases hr
theorem rn (h : YN c1 c2) {ops : Array Oper} : ∀ (l : List Oper) {A : List Value} {H : AH} {r : List Value × AH}, cG P G c1 ops l A H = some r → cG P G c2 ops l A H = some r := by
 intro l
 induction l with
 | nil => intro A H r hr; exact hr
 | cons o l ih =>
  intro A H r hr;simp only [cG] at hr ⊢;obtain ⟨s, hs, hr⟩ := aG.1 hr;rw [Aw h hs];exact ih hr
theorem afT (h : YN c1 c2) {ops : Array Oper} {A : List Value} {H : AH} {r : List Value × AH} (hr : cG P G c1 ops ops.toList A H = some r) : jd P G c2 ops A H = jd P G c1 ops A H := by
 funext i
 have h1 := rn h _ (wm hr i);unfold jd at h1 ⊢;rw [h1]; rfl
theorem YT (h : YN c1 c2) {ops : Array Oper} {A : List Value} {H : AH} {r : List Value × AH} (hr : l8 P G c1 ops A H = some r) : l8 P G c2 ops A H = some r := by
 obtain ⟨h1, h2, h3⟩ := fH hr;unfold l8;rw [h1];simp only
 cases h4 : db ops.toList with
 | nil => exact rn h _ h3
 | cons p ps =>
  simp only;rw [jU ?_]
  ·exact rn h _ h3
  ·rw [afT h h3, ← h4]; exact h2
theorem na (h : YN c1 c2) : ∀ (c : Code) {A : List Value} {H : AH} {r : AR}, aK P G c1 c A H = some r → aK P G c2 c A H = some r := by
 intro c
 induction c with
 | region id ops draw =>
  intro A H r hr;simp only [aK] at hr ⊢;obtain ⟨s, hs, e1⟩ := aN.1 hr
  have : ft P G c2 ops draw A H = some s := by
   cases draw with
   | true => exact YT h hs
   | false => exact rn h _ hs
  rw [this]; exact congrArg some e1
 | seq x y ihx ihy =>
  intro A H r hr;simp only [aK] at hr ⊢;obtain ⟨s, hx, hr⟩ := aG.1 hr;rw [ihx hx];simp only [bo]
  split at hr
  ·exact ihy hr
  ·exact hr
 | cond c x y ihx ihy =>
  intro A H r hr;simp only [aK] at hr ⊢
  split at hr
  ·exact ihx hr
  ·exact ihy hr
  ·cases hr
 | block id x ih =>
  intro A H r hr;simp only [aK] at hr ⊢;obtain ⟨s, hx, e2⟩ := aN.1 hr;rw [ih hx]; exact congrArg some e2
 | loop x ih =>
  intro A H r hr;simp only [aK] at hr ⊢;obtain ⟨n, hn⟩ := cF.1 hr;refine cF.2 ⟨n, ?_⟩
  clear hr
  induction n generalizing A H with
  | zero => cases hn
  | succ n ihn =>
   simp only [dU] at hn ⊢;obtain ⟨s, hx, hr⟩ := aG.1 hn;rw [ih hx];simp only [bo]
   split at hr
   ·exact ihn hr
   ·exact hr
 | _ => intro A H r hr; exact hr
theorem YS (h : YN c1 c2) {n : Nat} {rs : List ResultVar} {c : Code} {args : List Value} {H : AH} {r : Value × AH} (hr : o6 P G c1 n rs c args H = some r) : o6 P G c2 n rs c args H = some r := by
 unfold o6 at hr ⊢;obtain ⟨s, hs, hr⟩ := aG.1 hr;rw [na h _ hs];exact hr
theorem Ux (h : YN c1 c2) {n : Nat} {rs : List ResultVar} {s : DSh} {args : List Value} {H : AH} {r : Value × AH} (hr : n7 P G c1 n rs s args H = some r) : n7 P G c2 n rs s args H = some r := by
 unfold n7 at hr ⊢;obtain ⟨⟨e1, A1, H1⟩, h1, hr⟩ := aG.1 hr;rw [na h _ h1];simp only [bo]
 cases e1 with
 | exit i => exact hr
 | ret => exact hr
 | normal =>
  simp only at hr ⊢
  split at hr
  ·cases hr
  rename_i hlt
  rw [if_neg hlt];obtain ⟨q, h2, hr⟩ := aG.1 hr;obtain ⟨z, h3, hr⟩ := aG.1 hr;rw [Aw h h2];simp only [bo];rw [rn h _ h3];exact hr
theorem Mc : ∀ d, YN (eC P G d) (eC P G (d + 1)) := by
 intro d
 induction d with
 | zero => intro f args H r h; cases h
 | succ d ih =>
  intro f args H r h;rw [eC] at h ⊢;simp only [] at h ⊢
  cases hf : P.funcs[f]? with
  | none => rw [hf] at h; cases h
  | some fn =>
   rw [hf] at h;simp only at h ⊢
   split at h
   ·cases h
   ·rename_i hn
    rw [if_neg hn]
    cases hb : fn.body with
    | none => rw [hb] at h; cases h
    | some c =>
     rw [hb] at h;simp only at h ⊢
     cases hd : j7 c with
     | none => rw [hd] at h; exact YS ih h
     | some s =>
      rw [hd] at h;obtain ⟨h1, h2⟩ := nf h;simp only;rw [jU h1];exact Ux ih h2
theorem jS {d e : Nat} (h : d ≤ e) : YN (eC P G d) (eC P G e) := by
 induction e with
 | zero => rw [show d = 0 from by omega]; exact fun _ _ _ _ h => h
 | succ e ih =>
  by_cases hd : d = e + 1
  ·rw [hd]; exact fun _ _ _ _ h => h
  ·exact fun f args H r hr => Mc e f args H r (ih (by omega) f args H r hr)
open Classical in
noncomputable def aF (P : Program) (G : List Nat) : bg := fun f args H => if h : ∃ d r, eC P G d f args H = some r then some h.choose_spec.choose else none
theorem As {f : Nat} {args : List Value} {H : AH} {r : Value × AH} : aF P G f args H = some r ↔ ∃ d, eC P G d f args H = some r := by
 unfold aF
 constructor
 ·intro h
  split at h
  ·rename_i hx
   cases h;exact ⟨_, hx.choose_spec.choose_spec⟩
  ·cases h
 ·rintro ⟨n, hn⟩
  have hx : ∃ d r, eC P G d f args H = some r := ⟨n, r, hn⟩;rw [dif_pos hx];have h1 := jS (Nat.le_max_right n hx.choose) _ _ _ _ hx.choose_spec.choose_spec;have h2 := jS (Nat.le_max_left n hx.choose) _ _ _ _ hn;rw [h2] at h1;exact h1.symm
theorem anM (hm : P.follows .mixedOrders = true) : lq P G (aF P G) ∧ gy (aF P G) := by
 constructor
 ·intro f args H v H' h
  obtain ⟨d, hd⟩ := As.1 h;exact (AU hm d).1 f args H v H' hd
 ·intro f args H v H' h
  obtain ⟨d, hd⟩ := As.1 h;exact (AU hm d).2 f args H v H' hd
theorem ahF {ev : Operand → Value} {o : Oper} {H : AH} {r : Value × AH} (h : dK P (aF P G) ev o H = some r) : ∃ d, dK P (eC P G d) ev o H = some r := by
 obtain ⟨dst, op, type, pos, after, guard⟩ := o
 cases op with
 | call c =>
  obtain ⟨callee, args, ats⟩ := c
  cases callee with
  | value f =>
   simp only [dK] at h ⊢;obtain ⟨x, hx, h⟩ := aG.1 h;obtain ⟨d, hd⟩ := As.1 h;exact ⟨d, by rw [hx]; exact hd⟩
  | invoke r m => exact ⟨0, h⟩
  | builtin b => exact ⟨0, h⟩
 | makeMap t r => cases r <;> exact ⟨0, h⟩
 | slice t x lo hi mx => cases lo <;> cases hi <;> cases mx <;> exact ⟨0, h⟩
 | _ => exact ⟨0, h⟩
theorem Jb {ops : Array Oper} : ∀ (l : List Oper) {A : List Value} {H : AH} {r : List Value × AH}, cG P G (aF P G) ops l A H = some r → ∃ d, cG P G (eC P G d) ops l A H = some r := by
 intro l
 induction l with
 | nil => intro A H r hr; exact ⟨0, hr⟩
 | cons o l ih =>
  intro A H r hr;simp only [cG] at hr ⊢;obtain ⟨s, hs, hr⟩ := aG.1 hr;obtain ⟨d2, h2⟩ := ih hr
  have h1 : ∃ d, fI P G (eC P G d) ops o A H = some s := by
   unfold fI at hs ⊢
   split at hs
   ·rename_i hok
    split at hs
    ·rename_i hw
     obtain ⟨x, hx, e⟩ := aN.1 hs;obtain ⟨d, hd⟩ := ahF hx;exact ⟨d, by rw [if_pos hok, if_pos hw, hd]; exact congrArg some e⟩
    ·rename_i hw
     exact ⟨0, by rw [if_pos hok, if_neg hw]; exact hs⟩
   ·cases hs
  obtain ⟨d1, h1⟩ := h1;refine ⟨max d1 d2, ?_⟩;rw [Aw (jS (Nat.le_max_left ..)) h1];exact rn (jS (Nat.le_max_right ..)) _ h2
theorem Qf (d : Nat) : YN (eC P G d) (aF P G) := fun _ _ _ _ h => As.2 ⟨d, h⟩
theorem Jc {ops : Array Oper} {draw : Bool} {A : List Value} {H : AH} {r : List Value × AH} (h : ft P G (aF P G) ops draw A H = some r) : ∃ d, ft P G (eC P G d) ops draw A H = some r := by
 cases draw with
 | false => exact Jb _ h
 | true =>
  simp only [ft] at h ⊢;obtain ⟨h1, h2, h3⟩ := fH h;obtain ⟨d, hd⟩ := Jb _ h3;refine ⟨d, ?_⟩;unfold l8;rw [h1];simp only
  cases h4 : db ops.toList with
  | nil => exact hd
  | cons p ps =>
   simp only;rw [jU ?_]
   ·exact hd
   ·rw [← afT (Qf d) hd, ← h4]; exact h2
theorem Uw : ∀ (c : Code) {A : List Value} {H : AH} {r : AR}, aK P G (aF P G) c A H = some r → ∃ d, aK P G (eC P G d) c A H = some r := by
 intro c
 induction c with
 | region id ops draw =>
  intro A H r hr;simp only [aK] at hr ⊢;obtain ⟨s, hs, e1⟩ := aN.1 hr;obtain ⟨d, hd⟩ := Jc hs;exact ⟨d, by rw [hd]; exact congrArg some e1⟩
 | seq x y ihx ihy =>
  intro A H r hr;simp only [aK] at hr ⊢;obtain ⟨s, hx, hr⟩ := aG.1 hr;obtain ⟨d1, h1⟩ := ihx hx
  split at hr
  ·rename_i e
   obtain ⟨d2, h2⟩ := ihy hr;refine ⟨max d1 d2, ?_⟩;rw [na (jS (Nat.le_max_left ..)) _ h1];simp only [bo, e];exact na (jS (Nat.le_max_right ..)) _ h2
  ·refine ⟨d1, ?_⟩
   rw [h1];simp only [bo];exact hr
 | cond c x y ihx ihy =>
  intro A H r hr;simp only [aK] at hr ⊢
  split at hr
  ·exact ihx hr
  ·exact ihy hr
  ·cases hr
 | block id x ih =>
  intro A H r hr;simp only [aK] at hr ⊢;obtain ⟨s, hx, e2⟩ := aN.1 hr;obtain ⟨d, hd⟩ := ih hx;exact ⟨d, by rw [hd]; exact congrArg some e2⟩
 | loop x ih =>
  intro A H r hr;simp only [aK] at hr ⊢;obtain ⟨n, hn⟩ := cF.1 hr
  have key : ∃ d, dU (aK P G (eC P G d) x) n A H = some r := by
   clear hr
   induction n generalizing A H with
   | zero => cases hn
   | succ n ihn =>
    simp only [dU] at hn ⊢;obtain ⟨s, hx, hr⟩ := aG.1 hn;obtain ⟨d1, h1⟩ := ih hx
    split at hr
    ·rename_i e
     obtain ⟨d2, h2⟩ := ihn hr;refine ⟨max d1 d2, ?_⟩;rw [na (jS (Nat.le_max_left ..)) _ h1];simp only [bo, e]
     have key2 : ∀ (n : Nat) {A : List Value} {H : AH} {r : AR}, dU (aK P G (eC P G d2) x) n A H = some r → dU (aK P G (eC P G (max d1 d2)) x) n A H = some r := by
      intro n
      induction n with
      | zero => intro A H r h; cases h
      | succ n ih2 =>
       intro A H r h;simp only [dU] at h ⊢;obtain ⟨s, hx, hr⟩ := aG.1 h;rw [na (jS (Nat.le_max_right d1 d2)) _ hx];simp only [bo]
       split at hr
       ·exact ih2 hr
       ·exact hr
     exact key2 n h2
    ·refine ⟨d1, ?_⟩
     rw [h1];simp only [bo];exact hr
  obtain ⟨d, hd⟩ := key;exact ⟨d, cF.2 ⟨n, hd⟩⟩
 | _ => intro A H r hr; exact ⟨0, hr⟩
theorem anL {f : Nat} {fn : Func} {c : Code} (hf : P.funcs[f]? = some fn) (hb : fn.body = some c) (hn : fn.name ≠ "runtime.NumGoroutine") (hds : j7 c = none) {args : List Value} {H : AH} {r : Value × AH}
 (h : o6 P G (aF P G) fn.ntmps fn.results.toList c args H = some r) : aF P G f args H = some r := by
 unfold o6 at h;obtain ⟨s, hs, h⟩ := aG.1 h;obtain ⟨d, hd⟩ := Uw _ hs;refine As.2 ⟨d + 1, ?_⟩;simp only [eC, hf, hb, if_neg hn, hds, o6, hd, bo];exact h
end
section
variable {R : Type}
abbrev tb {α β : Type} (x : Option α) (f : α → Option β) : Option β :=
 match x with
 | some a => f a
 | none => none
theorem LG {α β : Type} (x : Option α) (f : α → Option β) : tb x f = x.bind f := by cases x <;> rfl
abbrev fU (P : Program) (b : Builtin) (argTypes : Array TypeId) (args : List Value) (H : AH) (k : Value → AH → Option R) : Option R :=
 match b, args with
 | .len, [x] => match (argTypes[0]?).bind fun t => P.underlying t with
  | some (.slice _) => match x with | .slice _ n _ => k (.int .i64 n) H | _ => none
  | some .string => match x with | .string s => k (.int .i64 s.size) H | _ => none
  | some (.map _ _) => (mz x H).bind fun v => k v H
  | _ => none
 | .max, args => (ig args).bind fun v => k v H
 | .min, args => (i8 args).bind fun v => k v H
 | .append, [s, x] => (argTypes[0]?).bind fun t => (b4 P t).bind fun el => (ca P el).bind fun e => (eZ P el).bind fun by' => (bE P el).bind fun z =>
  if z.cells.size = e ∧ (argTypes[1]?).bind (fun u => b4 P u) = some el then (dN e by' s x H).bind fun r => k r.1 r.2 else none
 | .delete, [m, key] => (argTypes[0]?).bind fun t => (b8 P t).bind fun kt => (cp P kt.1).bind fun fl => (mw fl m key H).bind fun H' => k (.tuple #[]) H'
 | _, _ => none
abbrev pB (P : Program) (call : bg) (ev : Operand → Value) (o : Oper) (H : AH) (k : Value → AH → Option R) : Option R :=
 match o.op with
 | .move x => k (ev x) H
 | .assign x => k (ev x) H
 | .pick c a b => (aM (ev c) (ev a) (ev b)).bind fun v => k v H
 | .alloc t => (bE P t).bind fun z => k (.pointer (some ⟨H.size, 0, none⟩)) (H.push (.cells false z.cells.toList))
 | .box _ x => k (.pointer (some ⟨H.size, 0, none⟩)) (H.push (.cells false (ev x).cells.toList))
 | .build t parts => match P.underlying t with
  | some (.struct fs) => (bE P t).bind fun z => (iV P fs.toList).bind fun ps => (cI (ps[·]?) z.cells.toList (parts.toList.map fun p => (p.1, ev p.2))).bind fun cs => k (.agg cs.toArray) H
  | some (.array _ el) => (bE P t).bind fun z => (ca P el).bind fun e => (cI (fun i => some (i * e, e)) z.cells.toList (parts.toList.map fun p => (p.1, ev p.2))).bind fun cs => k (.agg cs.toArray) H
  | _ => none
 | .buildSlice t len parts => (b4 P t).bind fun el => (ca P el).bind fun e => (bE P el).bind fun z =>
  if 0 < e ∧ z.cells.size = e ∧ len * e ≤ 2 ^ 24 then
   (cI (fun i => some (i * e, e)) (List.replicate len z.cells.toList).flatten (parts.toList.map fun p => (p.1, ev p.2))).bind fun cs => k (.slice (some ⟨H.size, 0, none⟩) len e) (H.push (.cells false cs))
  else none
 | .load t a => (eD P t).bind fun g => match g with
  | some n => (aC n (ev a) H).bind fun v => k v H
  | none => (au (ev a) H).bind fun v => k v H
 | .store t a x => (ca P t).bind fun n => (dc n (ev a) (ev x) H).bind fun H' => k undef H'
 | .nilCheck x => (tO (ev x)).bind fun v => k v H
 | .binOp op t x y _ => (aj (ym P t) op (ev x) (ev y)).bind fun v => k v H
 | .unOp op _ x => (pM op (ev x)).bind fun v => k v H
 | .convert src dst x => match P.underlying src with
  | some _ => (bI (qr P dst) (ev x)).bind fun v => k v H
  | none => none
 | .makeFunc fn first captured => k (.func fn (first.map ev) (captured.map ev)) H
 | .makeMap _ none => k (.map (some H.size)) (H.push (.map [] 0))
 | .makeSlice t l c => (b4 P t).bind fun el => (ca P el).bind fun e => (eZ P el).bind fun by' => (bE P el).bind fun z => (kB z.cells.toList e by' (ev l) (ev c) H).bind fun r => k r.1 r.2
 | .slice t x lo hi none => (b4 P t).bind fun el => (ca P el).bind fun e => (ec e (ev x) (lo.map ev) (hi.map ev)).bind fun v => k v H
 | .slice t x none (some hi) (some mx) => (b4 P t).bind fun el => (ca P el).bind fun _ => (iU (ev x) (ev hi) (ev mx)).bind fun v => k v H
 | .fieldAddr s x f => (jK P s f).bind fun f => (ca P f.type).bind fun n => if n = 0 then none else (D6 f.offset (ev x)).bind fun v => k v H
 | .field s x f => (jK P s f).bind fun f => (eD P f.type).bind fun n => (j2 n f.offset (ev x)).bind fun v => k v H
 | .indexAddr t x i => match P.underlying t with
  | some (.slice el) => (ca P el).bind fun e => (nX e (ev x) (ev i)).bind fun v => k v H
  | some (.array len el) => (ca P el).bind fun e => (iv len e (ev x) (ev i)).bind fun v => k v H
  | _ => none
 | .index t x i => match P.underlying t with
  | some (.array len el) => (ca P el).bind fun e => (eD P el).bind fun n => (iT len n e (ev x) (ev i)).bind fun v => k v H
  | some .string => (iS (ev x) (ev i)).bind fun v => k v H
  | _ => none
 | .lookup t m key ok => (b8 P t).bind fun kt => (cp P kt.1).bind fun fl => (bE P kt.2).bind fun z => (cu fl z (ev m) (ev key) ok H).bind fun v => k v H
 | .mapUpdate t m key x => (b8 P t).bind fun kt => (cp P kt.1).bind fun fl => (dG fl (ev m) (ev key) (ev x) H).bind fun H' => k undef H'
 | .extract t i => (ak (ev t) i).bind fun v => k v H
 | .call c => match c.callee with
  | .builtin b => fU P b c.argTypes (c.args.toList.map ev) H k
  | .value f => (b5 (ev f) (c.args.toList.map ev)).bind fun fa => (call fa.1 fa.2 H).bind fun r => k r.1 r.2
  | _ => none
 | _ => none
abbrev AT (P : Program) (b : Builtin) (argTypes : Array TypeId) (args : List Value) (H : AH) (k : Value → AH → Option R) : Option R :=
 match b, args with
 | .len, [x] => match (argTypes[0]?).bind fun t => P.underlying t with
  | some (.slice _) => match x with | .slice _ n _ => k (.int .i64 n) H | _ => none
  | some .string => match x with | .string s => k (.int .i64 s.size) H | _ => none
  | some (.map _ _) => (mz x H).bind fun v => k v H
  | _ => none
 | .max, args => (ig args).bind fun v => k v H
 | .min, args => (i8 args).bind fun v => k v H
 | .append, [s, x] => tb (argTypes[0]?) fun t => tb (b4 P t) fun el => tb (ca P el) fun e => tb (eZ P el) fun by' => tb (bE P el) fun z =>
  if z.cells.size = e ∧ (argTypes[1]?).bind (fun u => b4 P u) = some el then (dN e by' s x H).bind fun r => k r.1 r.2 else none
 | .delete, [m, key] => tb (argTypes[0]?) fun t => tb (b8 P t) fun kt => tb (cp P kt.1) fun fl => (mw fl m key H).bind fun H' => k (.tuple #[]) H'
 | _, _ => none
abbrev cOp (P : Program) (call : bg) (ev : Operand → Value) (o : Oper) (H : AH) (k : Value → AH → Option R) : Option R :=
 match o.op with
 | .move x => k (ev x) H
 | .assign x => k (ev x) H
 | .pick c a b => (aM (ev c) (ev a) (ev b)).bind fun v => k v H
 | .alloc t => tb (bE P t) fun z => k (.pointer (some ⟨H.size, 0, none⟩)) (H.push (.cells false z.cells.toList))
 | .box _ x => k (.pointer (some ⟨H.size, 0, none⟩)) (H.push (.cells false (ev x).cells.toList))
 | .build t parts => match P.underlying t with
  | some (.struct fs) => tb (bE P t) fun z => tb (iV P fs.toList) fun ps => (cI (ps[·]?) z.cells.toList (parts.toList.map fun p => (p.1, ev p.2))).bind fun cs => k (.agg cs.toArray) H
  | some (.array _ el) => tb (bE P t) fun z => tb (ca P el) fun e => (cI (fun i => some (i * e, e)) z.cells.toList (parts.toList.map fun p => (p.1, ev p.2))).bind fun cs => k (.agg cs.toArray) H
  | _ => none
 | .buildSlice t len parts => tb (b4 P t) fun el => tb (ca P el) fun e => tb (bE P el) fun z =>
  if 0 < e ∧ z.cells.size = e ∧ len * e ≤ 2 ^ 24 then
   (cI (fun i => some (i * e, e)) (List.replicate len z.cells.toList).flatten (parts.toList.map fun p => (p.1, ev p.2))).bind fun cs => k (.slice (some ⟨H.size, 0, none⟩) len e) (H.push (.cells false cs))
  else none
 | .load t a => tb (eD P t) fun g => match g with
  | some n => (aC n (ev a) H).bind fun v => k v H
  | none => (au (ev a) H).bind fun v => k v H
 | .store t a x => tb (ca P t) fun n => (dc n (ev a) (ev x) H).bind fun H' => k undef H'
 | .nilCheck x => (tO (ev x)).bind fun v => k v H
 | .binOp op t x y _ => (aj (ym P t) op (ev x) (ev y)).bind fun v => k v H
 | .unOp op _ x => (pM op (ev x)).bind fun v => k v H
 | .convert src dst x => match P.underlying src with
  | some _ => (bI (qr P dst) (ev x)).bind fun v => k v H
  | none => none
 | .makeFunc fn first captured => k (.func fn (first.map ev) (captured.map ev)) H
 | .makeMap _ none => k (.map (some H.size)) (H.push (.map [] 0))
 | .makeSlice t l c => tb (b4 P t) fun el => tb (ca P el) fun e => tb (eZ P el) fun by' => tb (bE P el) fun z => (kB z.cells.toList e by' (ev l) (ev c) H).bind fun r => k r.1 r.2
 | .slice t x lo hi none => tb (b4 P t) fun el => tb (ca P el) fun e => (ec e (ev x) (lo.map ev) (hi.map ev)).bind fun v => k v H
 | .slice t x none (some hi) (some mx) => tb (b4 P t) fun el => tb (ca P el) fun _ => (iU (ev x) (ev hi) (ev mx)).bind fun v => k v H
 | .fieldAddr s x f => tb (jK P s f) fun f => tb (ca P f.type) fun n => if n = 0 then none else (D6 f.offset (ev x)).bind fun v => k v H
 | .field s x f => tb (jK P s f) fun f => tb (eD P f.type) fun n => (j2 n f.offset (ev x)).bind fun v => k v H
 | .indexAddr t x i => match P.underlying t with
  | some (.slice el) => tb (ca P el) fun e => (nX e (ev x) (ev i)).bind fun v => k v H
  | some (.array len el) => tb (ca P el) fun e => (iv len e (ev x) (ev i)).bind fun v => k v H
  | _ => none
 | .index t x i => match P.underlying t with
  | some (.array len el) => tb (ca P el) fun e => tb (eD P el) fun n => (iT len n e (ev x) (ev i)).bind fun v => k v H
  | some .string => (iS (ev x) (ev i)).bind fun v => k v H
  | _ => none
 | .lookup t m key ok => tb (b8 P t) fun kt => tb (cp P kt.1) fun fl => tb (bE P kt.2) fun z => (cu fl z (ev m) (ev key) ok H).bind fun v => k v H
 | .mapUpdate t m key x => tb (b8 P t) fun kt => tb (cp P kt.1) fun fl => (dG fl (ev m) (ev key) (ev x) H).bind fun H' => k undef H'
 | .extract t i => (ak (ev t) i).bind fun v => k v H
 | .call c => match c.callee with
  | .builtin b => AT P b c.argTypes (c.args.toList.map ev) H k
  | .value f => (b5 (ev f) (c.args.toList.map ev)).bind fun fa => (call fa.1 fa.2 H).bind fun r => k r.1 r.2
  | _ => none
 | _ => none
theorem fN {α β γ : Type} (x : Option α) (b : β) (k : α → β → Option γ) : ((x.map (·, b)).bind fun r => k r.1 r.2) = x.bind fun v => k v b := by cases x <;> rfl
theorem xg {β γ : Type} (x : Option β) (v : Value) (k : Value → β → Option γ) : ((x.map fun H' => (v, H')).bind fun r => k r.1 r.2) = x.bind fun H' => k v H' := by cases x <;> rfl
theorem F3 (P : Program) (b : Builtin) (ts : Array TypeId) (args : List Value) (H : AH) (k : Value → AH → Option R) : fU P b ts args H k = (cj P b ts args H).bind fun r => k r.1 r.2 := by
 cases b with
 | len =>
  match args with
  | [] => rfl
  | [x] =>
   simp only [fU, cj]
   cases (ts[0]?).bind fun t => P.underlying t with
   | none => rfl
   | some d => cases d <;> first | rfl | (cases x <;> rfl) | (simp only [fN])
  | x :: y :: zs => rfl
 | max => simp only [fU, cj, fN]
 | min => simp only [fU, cj, fN]
 | append =>
  match args with
  | [] => rfl
  | [x] => rfl
  | [s, x] =>
   simp only [fU, cj, Option.bind_assoc]
   congr 1; funext t; congr 1; funext el; congr 1; funext e; congr 1; funext b; congr 1; funext z
   split
   ·rfl
   ·rfl
  | x :: y :: z :: zs => rfl
 | delete =>
  match args with
  | [] => rfl
  | [x] => rfl
  | [s, x] => simp only [fU, cj, Option.bind_assoc, xg]
  | x :: y :: z :: zs => rfl
 | _ => rfl
theorem ahK (P : Program) (call : bg) (ev : Operand → Value) (o : Oper) (H : AH) (k : Value → AH → Option R) : pB P call ev o H k = (dK P call ev o H).bind fun r => k r.1 r.2 := by
 obtain ⟨dst, op, type, pos, after, guard⟩ := o
 cases op with
 | call c =>
  obtain ⟨callee, args, ats⟩ := c
  cases callee with
  | value f => simp only [pB, dK, Option.bind_assoc]
  | invoke r m => rfl
  | builtin b => simp only [pB, dK]; exact F3 ..
 | makeMap t r => cases r <;> rfl
 | slice t x lo hi mx =>
  cases mx with
  | none => simp only [pB, dK, Option.bind_assoc, fN]
  | some m => cases lo <;> cases hi <;> first | rfl | (simp only [pB, dK, Option.bind_assoc, fN])
 | load t a =>
  simp only [pB, dK, Option.bind_assoc]
  congr 1
  funext g
  cases g <;> simp only [fN]
 | build t parts =>
  simp only [pB, dK]
  cases P.underlying t with
  | none => rfl
  | some d => cases d <;> first | rfl | (simp only [Option.bind_assoc, Option.bind_map]; rfl)
 | buildSlice t len parts =>
  simp only [pB, dK, Option.bind_assoc]
  congr 1; funext el; congr 1; funext e; congr 1; funext z
  split
  ·rw [Option.bind_map]; rfl
  ·rfl
 | fieldAddr s x f =>
  simp only [pB, dK, Option.bind_assoc]
  congr 1; funext el; congr 1; funext e
  split
  ·rfl
  ·rw [fN]
 | alloc t => simp only [pB, dK, Option.bind_map]; rfl
 | indexAddr t x i =>
  simp only [pB, dK]
  cases P.underlying t with
  | none => rfl
  | some d => cases d <;> first | rfl | (simp only [Option.bind_assoc, fN])
 | index t x i =>
  simp only [pB, dK]
  cases P.underlying t with
  | none => rfl
  | some d => cases d <;> first | rfl | (simp only [Option.bind_assoc, fN])
 | convert s d x =>
  simp only [pB, dK]
  cases P.underlying s with
  | none => rfl
  | some d => simp only [fN]
 | store t x y => simp only [pB, dK, Option.bind_assoc, xg]
 | mapUpdate t m key x => simp only [pB, dK, Option.bind_assoc, xg]
 | _ => first | rfl | (simp only [pB, dK, Option.bind_assoc, fN]; done)
theorem Mo (P : Program) (b : Builtin) (ts : Array TypeId) (args : List Value) (H : AH) (k : Value → AH → Option R) : AT P b ts args H k = fU P b ts args H k := by
 unfold AT fU;simp only [LG]
theorem anR (P : Program) (call : bg) (ev : Operand → Value) (o : Oper) (H : AH) (k : Value → AH → Option R) : cOp P call ev o H k = pB P call ev o H k := by
 unfold cOp pB;simp only [LG, Mo]
theorem Za (P : Program) (call : bg) (ev : Operand → Value) (o : Oper) (H : AH) (k : Value → AH → Option R) : cOp P call ev o H k = (dK P call ev o H).bind fun r => k r.1 r.2 := (anR ..).trans (ahK ..)
def HF (op : Op) : Bool := j5 op == 0 || j5 op == 2
theorem WR {P : Program} {call : bg} {ev : Operand → Value} {o : Oper} {H : AH} (h : HF o.op = true) : dK P call ev o H = (cOp P call ev o H fun v _ => some v).map (·, H) := by
 rw [Za]
 cases hx : dK P call ev o H with
 | none => rfl
 | some r =>
  obtain ⟨v, H'⟩ := r;simp only [bo, dP];unfold HF at h;simp only [Bool.or_eq_true, beq_iff_eq] at h
  rcases h with h | h
  ·rw [(uj h hx).1]
  ·rw [Au h] at hx
   obtain ⟨y, _, e⟩ := aN.1 hx;rw [(Prod.mk.inj e).2]
abbrev Qy (P : Program) (G : List Nat) (call : bg) (ops : Array Oper) (o : Oper) (A : List Value) (H : AH) (k : List Value → AH → Option R) : Option R :=
 match o.op.operands.toList.all (L5 G) with
 | true => match o.guard with
  | none => cOp P call (eF A) o H fun v H' => k (kE A o.dst v) H'
  | some g => match HF o.op with
   | true => (match cV ops A g.1 == some g.2 with
    | true => cOp P call (eF A) o H fun v _ => some v
    | false => some undef).bind fun v => k (kE A o.dst v) H
   | false => (match cV ops A g.1 == some g.2 with
    | true => dK P call (eF A) o H
    | false => some (undef, H)).bind fun r => k (kE A o.dst r.1) r.2
 | false => none
theorem Jp (P : Program) (G : List Nat) (call : bg) (ops : Array Oper) (o : Oper) (A : List Value) (H : AH) (k : List Value → AH → Option R) : Qy P G call ops o A H k = (fI P G call ops o A H).bind fun s => k s.1 s.2 := by
 unfold Qy fI
 cases o.op.operands.toList.all (L5 G) with
 | false => rfl
 | true =>
  simp only [if_true];unfold Region.wanted
  cases o.guard with
  | none =>
   simp only [if_true];rw [Za, Option.bind_map]; rfl
  | some g =>
   obtain ⟨g, want⟩ := g;simp only
   cases hl : HF o.op with
   | true =>
    simp only
    by_cases h : (cV ops A g == some want) = true
    ·rw [if_pos h, h, WR hl]
     simp only
     cases (cOp P call (eF A) o H fun v _ => some v) <;> rfl
    ·rw [if_neg h, Bool.eq_false_iff.2 h]; rfl
   | false =>
    simp only
    by_cases h : (cV ops A g == some want) = true
    ·rw [if_pos h, h, Option.bind_map]; rfl
    ·rw [if_neg h, Bool.eq_false_iff.2 h]; rfl
abbrev Zb (P : Program) (G : List Nat) (call : bg) (ops : Array Oper) : List Oper → List Value → AH → (List Value → AH → Option R) → Option R
 | [], A, H, k => k A H
 | o :: rest, A, H, k => Qy P G call ops o A H fun A' H' => Zb P G call ops rest A' H' k
theorem Qx (P : Program) (G : List Nat) (call : bg) (ops : Array Oper) : ∀ (l : List Oper) (A : List Value) (H : AH) (k : List Value → AH → Option R), Zb P G call ops l A H k = (cG P G call ops l A H).bind fun s => k s.1 s.2 := by
 intro l
 induction l with
 | nil => intro A H k; rfl
 | cons o l ih =>
  intro A H k;simp only [Zb, cG];rw [Jp, Option.bind_assoc]
  congr 1
  funext s
  exact ih _ _ _
noncomputable def bJ {R : Type} (x y : Option Value) (k : Option R) : Option R := Jq (x = y) k
theorem alZ {R : Type} {x y : Option Value} (h : x = y) (k : Option R) : bJ x y k = k := jU h k
noncomputable abbrev UP {R : Type} (j : Nat) (hist : List ((AH → Option Value) × AH)) (rd : AH → Option Value) (H H' : AH) (k : Option R) : List (Nat × Nat) → Option R
 | [] => k
 | pq :: rest => match pq.1 == j with
  | true => match Nat.blt pq.2 j with
   | true => match hist[pq.2]? with
    | some h => bJ (rd h.2) (rd H) (UP j hist rd H H' k rest)
    | none => none
   | false => UP j hist rd H H' k rest
  | false => match pq.2 == j with
   | true => match Nat.blt pq.1 j with
    | true => match hist[pq.1]? with
     | some h => bJ (h.1 H') (h.1 h.2) (UP j hist rd H H' k rest)
     | none => none
    | false => UP j hist rd H H' k rest
   | false => UP j hist rd H H' k rest
theorem Jr {α β : Type} (p : Prop) (x : Option α) (k : α → Option β) : (Jq p x).bind k = Jq p (x.bind k) := by unfold Jq; split <;> rfl
theorem Zj {α β : Type} {j : Nat} {hist : List ((AH → Option Value) × AH)} {rd : AH → Option Value} {H H' : AH} (x : Option α) (k : α → Option β) : ∀ l, (UP j hist rd H H' x l).bind k = UP j hist rd H H' (x.bind k) l := by
 intro l
 induction l with
 | nil => rfl
 | cons p l ih =>
  simp only [UP]
  cases p.1 == j with
  | true =>
   cases Nat.blt p.2 j with
   | true =>
    simp only
    cases hist[p.2]? with
    | none => rfl
    | some h => simp only [bJ]; rw [Jr, ih]
   | false => exact ih
  | false =>
   cases p.2 == j with
   | true =>
    cases Nat.blt p.1 j with
    | true =>
     simp only
     cases hist[p.1]? with
     | none => rfl
     | some h => simp only [bJ]; rw [Jr, ih]
    | false => exact ih
   | false => exact ih
def YG (j : Nat) (hist : List ((AH → Option Value) × AH)) (rd : AH → Option Value) (H H' : AH) (p : Nat × Nat) : Prop :=
 (p.1 = j → p.2 < j → ∃ h, hist[p.2]? = some h ∧ rd h.2 = rd H) ∧ (p.2 = j → p.1 < j → ∃ h, hist[p.1]? = some h ∧ h.1 H' = h.1 h.2)
theorem QA {α : Type} {p : Prop} {x : Option α} {r : α} : Jq p x = some r ↔ p ∧ x = some r := ⟨nf, fun h => by rw [jU h.1]; exact h.2⟩
theorem QE {α : Type} {j : Nat} {hist : List ((AH → Option Value) × AH)} {rd : AH → Option Value} {H H' : AH} {x : Option α} {r : α} : ∀ {l}, UP j hist rd H H' x l = some r ↔ (∀ p ∈ l, YG j hist rd H H' p) ∧ x = some r := by
 intro l
 induction l with
 | nil => simp [UP]
 | cons p l ih =>
  have split : (∀ q ∈ p :: l, YG j hist rd H H' q) ↔ YG j hist rd H H' p ∧ ∀ q ∈ l, YG j hist rd H H' q := by simp
  rw [split, and_assoc, ← ih];simp only [UP]
  by_cases h1 : p.1 = j
  ·have e1 : (p.1 == j) = true := by simpa using h1
   rw [e1];simp only
   by_cases h2 : p.2 < j
   ·have e2 : Nat.blt p.2 j = true := by simpa [Nat.blt_eq] using h2
    rw [e2];simp only
    have hn : ¬ p.2 = j := by omega
    unfold YG
    cases hist[p.2]? with
    | none => simp [h1, h2]
    | some h => simp only [bJ]; rw [QA]; simp [h1, h2, hn]
   ·have e2 : Nat.blt p.2 j = false := by rw [Bool.eq_false_iff]; intro h; exact h2 (by simpa [Nat.blt_eq] using h)
    rw [e2];simp only;have : YG j hist rd H H' p := ⟨fun _ h => absurd h h2, fun _ h => absurd h (by omega)⟩;simp [this]
  ·have e1 : (p.1 == j) = false := by simpa using h1
   rw [e1];simp only
   by_cases h2 : p.2 = j
   ·have e2 : (p.2 == j) = true := by simpa using h2
    rw [e2];simp only
    by_cases h3 : p.1 < j
    ·have e3 : Nat.blt p.1 j = true := by simpa [Nat.blt_eq] using h3
     rw [e3];simp only;unfold YG
     cases hist[p.1]? with
     | none => simp [h1, h2, h3]
     | some h => simp only [bJ]; rw [QA]; simp [h1, h2, h3]
    ·have e3 : Nat.blt p.1 j = false := by rw [Bool.eq_false_iff]; intro h; exact h3 (by simpa [Nat.blt_eq] using h)
     rw [e3];simp only;have : YG j hist rd H H' p := ⟨fun h => absurd h h1, fun _ h => absurd h h3⟩;simp [this]
   ·have e2 : (p.2 == j) = false := by simpa using h2
    rw [e2];simp only;have : YG j hist rd H H' p := ⟨fun h => absurd h h1, fun h => absurd h h2⟩;simp [this]
abbrev Iu (P : Program) (A : List Value) (o : Oper) : AH → Option Value := fun H => Av P (eF A) o.op H
noncomputable def pT (P : Program) (G : List Nat) (call : bg) (ops : Array Oper) (pairs : List (Nat × Nat)) : List Oper → Nat → List ((AH → Option Value) × AH) → List Value → AH → Option (List Value × AH)
 | [], _, _, A, H => some (A, H)
 | o :: rest, j, hist, A, H => (fI P G call ops o A H).bind fun s => UP j hist (Iu P A o) H s.2 (pT P G call ops pairs rest (j + 1) (hist ++ [(Iu P A o, H)]) s.1 s.2) pairs
noncomputable abbrev Qw (P : Program) (G : List Nat) (call : bg) (ops : Array Oper) (pairs : List (Nat × Nat)) : List Oper → Nat → List ((AH → Option Value) × AH) → List Value → AH → (List Value → AH → Option R) → Option R
 | [], _, _, A, H, k => k A H
 | o :: rest, j, hist, A, H, k => Qy P G call ops o A H fun A' H' => UP j hist (Iu P A o) H H' (Qw P G call ops pairs rest (j + 1) (hist ++ [(Iu P A o, H)]) A' H' k) pairs
theorem Zc (P : Program) (G : List Nat) (call : bg) (ops : Array Oper) (pairs : List (Nat × Nat)) : ∀ (l : List Oper) (j : Nat) (hist : List ((AH → Option Value) × AH)) (A : List Value) (H : AH) (k : List Value → AH → Option R), Qw P G call ops pairs l j hist A H k = (pT P G call ops pairs l j hist A H).bind fun s => k s.1 s.2 := by
 intro l
 induction l with
 | nil => intro j hist A H k; rfl
 | cons o l ih =>
  intro j hist A H k;simp only [Qw, pT];rw [Jp, Option.bind_assoc]
  congr 1
  funext s
  rw [Zj, ih]
theorem UA {P : Program} {G : List Nat} {call : bg} {ops : Array Oper} {pairs : List (Nat × Nat)} {A0 : List Value} {H0 : AH} {r0 : List Value × AH} (h0 : cG P G call ops ops.toList A0 H0 = some r0) (hp : ∀ p ∈ pairs, p.1 < ops.size ∧ p.2 < ops.size ∧ p.1 ≠ p.2) :
 ∀ (l : List Oper) (j : Nat) (hist : List ((AH → Option Value) × AH)), ops.toList.drop j = l → hist.length = j → (∀ i, i < j → ∃ o, ops[i]? = some o ∧ hist[i]? = some (Iu P (jd P G call ops A0 H0 i).1 o, (jd P G call ops A0 H0 i).2)) →
  ∀ r, pT P G call ops pairs l j hist (jd P G call ops A0 H0 j).1 (jd P G call ops A0 H0 j).2 = some r ↔ (∀ p ∈ pairs, j ≤ max p.1 p.2 → jn P (jd P G call ops A0 H0) ops p) ∧ r = r0 := by
 intro l
 induction l with
 | nil =>
  intro j hist hl hlen hh r
  have hj : ops.size ≤ j := by
   have := congrArg List.length hl;simp at this; omega
  have hst : jd P G call ops A0 H0 j = r0 := by
   unfold jd;rw [List.take_of_length_le (by simpa using hj), h0]; rfl
  simp only [pT, hst]
  constructor
  ·intro e
   exact ⟨fun p hpm hm => absurd (hp p hpm) (by omega), (fi e).symm⟩
  ·rintro ⟨_, rfl⟩; rfl
 | cons o l ih =>
  intro j hist hl hlen hh r
  have hj : ops.toList[j]? = some o := by
   have := congrArg (·[0]?) hl
   simpa using this
  have ho : ops[j]? = some o := by simpa using hj
  have hjs : j < ops.size := by
   have := (qw.1 hj).1
   simpa using this
  have hstep := Lv h0 ho
  have hl' : ops.toList.drop (j + 1) = l := by
   have := congrArg (List.drop 1) hl
   simpa [List.drop_drop, Nat.add_comm] using this
  have hh' : ∀ i, i < j + 1 → ∃ o', ops[i]? = some o' ∧ (hist ++ [(Iu P (jd P G call ops A0 H0 j).1 o, (jd P G call ops A0 H0 j).2)])[i]? = some (Iu P (jd P G call ops A0 H0 i).1 o', (jd P G call ops A0 H0 i).2) := by
   intro i hi
   by_cases e : i = j
   ·subst e
    exact ⟨o, ho, by rw [List.getElem?_append_right (by omega)]; simp [hlen]⟩
   ·obtain ⟨o', h1, h2⟩ := hh i (by omega)
    exact ⟨o', h1, by rw [List.getElem?_append_left (by omega)]; exact h2⟩
  have hi := ih (j + 1) _ hl' (by simp [hlen]) hh' r;simp only [pT];rw [hstep];simp only [bo];rw [QE, hi]
  have key : ∀ p ∈ pairs, max p.1 p.2 = j → (YG j hist (Iu P (jd P G call ops A0 H0 j).1 o) (jd P G call ops A0 H0 j).2 (jd P G call ops A0 H0 (j + 1)).2 p ↔ jn P (jd P G call ops A0 H0) ops p) := by
   intro p hpm hm;obtain ⟨h1, h2, h3⟩ := hp p hpm;unfold YG jn
   by_cases hlt : p.2 < p.1
   ·have e1 : p.1 = j := by omega
    obtain ⟨o2, _, hg⟩ := hh p.2 (by omega);rw [if_pos hlt]
    constructor
    ·intro ⟨a, _⟩ o' ho'
     rw [e1, ho] at ho';cases ho';obtain ⟨h, hg', e⟩ := a e1 (by omega);rw [hg] at hg';cases hg';rw [e1];exact e
    ·intro a
     refine ⟨fun _ _ => ⟨_, hg, ?_⟩, fun e => absurd e (by omega)⟩;have := a o (by rw [e1]; exact ho);rw [e1] at this;exact this
   ·have e2 : p.2 = j := by omega
    obtain ⟨o1, ho1, hg⟩ := hh p.1 (by omega);rw [if_neg hlt, e2]
    constructor
    ·intro ⟨_, a⟩ o' ho'
     rw [ho1] at ho';cases ho';obtain ⟨h, hg', e⟩ := a rfl (by omega);rw [hg] at hg';cases hg';exact e
    ·intro a
     refine ⟨fun e => absurd e (by omega), fun _ _ => ⟨_, hg, a o1 ho1⟩⟩
  have out : ∀ p ∈ pairs, max p.1 p.2 ≠ j → YG j hist (Iu P (jd P G call ops A0 H0 j).1 o) (jd P G call ops A0 H0 j).2 (jd P G call ops A0 H0 (j + 1)).2 p := by
   intro p hpm hm;exact ⟨fun h1 h2 => absurd hm (by omega), fun h1 h2 => absurd hm (by omega)⟩
  constructor
  ·rintro ⟨a, b, c⟩
   refine ⟨fun p hpm hm => ?_, c⟩
   by_cases e : max p.1 p.2 = j
   ·exact (key p hpm e).1 (a p hpm)
   ·exact b p hpm (by omega)
  ·rintro ⟨a, c⟩
   refine ⟨fun p hpm => ?_, fun p hpm hm => a p hpm (by omega), c⟩
   by_cases e : max p.1 p.2 = j
   ·exact (key p hpm e).2 (a p hpm (by omega))
   ·exact out p hpm e
theorem Me {P : Program} {G : List Nat} {call : bg} {ops : Array Oper} {pairs : List (Nat × Nat)} : ∀ (l : List Oper) (j : Nat) (hist : List ((AH → Option Value) × AH)) (A : List Value) (H : AH) (r : List Value × AH), pT P G call ops pairs l j hist A H = some r → cG P G call ops l A H = some r := by
 intro l
 induction l with
 | nil => intro j hist A H r h; exact h
 | cons o l ih =>
  intro j hist A H r h;simp only [pT] at h;obtain ⟨s, hs, h⟩ := aG.1 h;simp only [cG];rw [hs];exact ih _ _ _ _ _ (QE.1 h).2
theorem HK {ops : Array Oper} : ∀ p ∈ db ops.toList, p.1 < ops.size ∧ p.2 < ops.size ∧ p.1 ≠ p.2 := by
 intro p hp;unfold db at hp;simp only [List.mem_flatMap, List.mem_filter, List.mem_map] at hp;obtain ⟨x, ⟨hx, hx2⟩, y, ⟨hy, hy2⟩, rfl⟩ := hp;have hx := List.mem_zipIdx hx;have hy := List.mem_zipIdx hy;simp only [beq_iff_eq] at hx2;simp only [Bool.and_eq_true, beq_iff_eq] at hy2;refine ⟨by have := hx.2.1; simpa using this, by have := hy.2.1; simpa using this, ?_⟩;intro e;simp only at e;have e3 := hy2.1.1;have ex := hx.2.2;have ey := hy.2.2;simp only [e, Nat.sub_zero] at ex ey
 have : x.1 = y.1 := by rw [ex, ey]
 rw [this, e3] at hx2;cases hx2
theorem Mt {P : Program} {G : List Nat} {call : bg} {ops : Array Oper} {pairs : List (Nat × Nat)} (hp : ∀ p ∈ pairs, p.1 < ops.size ∧ p.2 < ops.size ∧ p.1 ≠ p.2) (A : List Value) (H : AH) :
 Jq (∀ q ∈ pairs, jn P (jd P G call ops A H) ops q) (cG P G call ops ops.toList A H) = pT P G call ops pairs ops.toList 0 [] A H := by
 cases hx : cG P G call ops ops.toList A H with
 | none =>
  cases hy : pT P G call ops pairs ops.toList 0 [] A H with
  | none => unfold Jq; split <;> rfl
  | some r => have := Me _ _ _ _ _ _ hy; rw [hx] at this; cases this
 | some r0 =>
  have hi := UA hx hp ops.toList 0 [] rfl rfl (fun i hi => absurd hi (by omega));simp only [afU] at hi
  cases hy : pT P G call ops pairs ops.toList 0 [] A H with
  | none =>
   cases hz : Jq (∀ q ∈ pairs, jn P (jd P G call ops A H) ops q) (some r0) with
   | none => rfl
   | some r =>
    obtain ⟨h1, h2⟩ := nf hz;have := (hi r0).2 ⟨fun p hpm _ => h1 p hpm, rfl⟩;rw [hy] at this; cases this
  | some r =>
   obtain ⟨h1, h2⟩ := (hi r).1 hy;rw [jU (fun p hpm => h1 p hpm (by omega)), h2]
noncomputable abbrev F4 (P : Program) (G : List Nat) (call : bg) (ops : Array Oper) (draw : Bool) (A : List Value) (H : AH) (k : List Value → AH → Option R) : Option R :=
 match draw with
 | false => Zb P G call ops ops.toList A H k
 | true => match s6 ops.toList with
  | false => none
  | true => match db ops.toList with
   | [] => Zb P G call ops ops.toList A H k
   | p :: ps => Qw P G call ops (p :: ps) ops.toList 0 [] A H k
theorem Mq (P : Program) (G : List Nat) (call : bg) (ops : Array Oper) (draw : Bool) (A : List Value) (H : AH) (k : List Value → AH → Option R) : F4 P G call ops draw A H k = (ft P G call ops draw A H).bind fun s => k s.1 s.2 := by
 unfold F4 ft l8
 cases draw with
 | false => exact Qx ..
 | true =>
  simp only
  cases s6 ops.toList with
  | false => rfl
  | true =>
   simp only
   cases hl : db ops.toList with
   | nil => exact Qx ..
   | cons p ps =>
    simp only;rw [Mt (fun q hq => HK q (by rw [hl]; exact hq)), Zc]
def ahQ (kn : List Value → AH → Option R) (kx : Nat → List Value → AH → Option R) (kr : List Value → AH → Option R) (r : AR) : Option R :=
 match r.1 with
 | .normal => kn r.2.1 r.2.2
 | .exit i => kx i r.2.1 r.2.2
 | .ret => kr r.2.1 r.2.2
noncomputable def iC (P : Program) (G : List Nat) (call : bg) (x : Code) (A : List Value) (H : AH) (kx : Nat → List Value → AH → Option R) (kr : List Value → AH → Option R) : Option R :=
 (o7 (aK P G call x) A H).bind (ahQ (fun _ _ => none) kx kr)
noncomputable abbrev aT (P : Program) (G : List Nat) (call : bg) : Code → List Value → AH → (List Value → AH → Option R) → (Nat → List Value → AH → Option R) → (List Value → AH → Option R) → Option R
 | .skip, A, H, kn, _, _ => kn A H
 | .label _, A, H, kn, _, _ => kn A H
 | .region _ ops draw, A, H, kn, _, _ => F4 P G call ops draw A H kn
 | .seq x y, A, H, kn, kx, kr => aT P G call x A H (fun A H => aT P G call y A H kn kx kr) kx kr
 | .cond c x y, A, H, kn, kx, kr => match eF A c with
  | .bool true => aT P G call x A H kn kx kr
  | .bool false => aT P G call y A H kn kx kr
  | _ => none
 | .block id x, A, H, kn, kx, kr => aT P G call x A H kn (fun i A H => if i = id then kn A H else kx i A H) kr
 | .loop x, A, H, _, kx, kr => iC P G call x A H kx kr
 | .exit id, A, H, _, kx, _ => kx id A H
 | .ret, A, H, _, _, kr => kr A H
 | _, _, _, _, _, _ => none
theorem Uy {f : List Value → AH → Option AR} : ∀ {n : Nat} {A : List Value} {H : AH} {r : AR}, dU f n A H = some r → r.1 ≠ .normal := by
 intro n
 induction n with
 | zero => intro A H r h; cases h
 | succ n ih =>
  intro A H r h;simp only [dU] at h;obtain ⟨s, hs, h⟩ := aG.1 h
  split at h
  ·exact ih h
  ·rename_i e
   cases h;exact fun he => e he
theorem Uz {f : List Value → AH → Option AR} {A : List Value} {H : AH} {r : AR} (h : o7 f A H = some r) : r.1 ≠ .normal := by
 obtain ⟨n, hn⟩ := cF.1 h;exact Uy hn
theorem uq (P : Program) (G : List Nat) (call : bg) : ∀ (c : Code) (A : List Value) (H : AH) (kn : List Value → AH → Option R) (kx : Nat → List Value → AH → Option R) (kr : List Value → AH → Option R),
 aT P G call c A H kn kx kr = (aK P G call c A H).bind (ahQ kn kx kr) := by
 intro c
 induction c with
 | skip => intros; rfl
 | label => intros; rfl
 | exit => intros; rfl
 | ret => intros; rfl
 | region id ops draw =>
  intro A H kn kx kr;simp only [aT, aK];rw [Mq, Option.bind_map]; rfl
 | seq x y ihx ihy =>
  intro A H kn kx kr;simp only [aT, aK];rw [ihx, Option.bind_assoc]
  congr 1
  funext r
  obtain ⟨e, A1, H1⟩ := r
  cases e with
  | normal => simp only [ahQ]; exact ihy ..
  | exit i => rfl
  | ret => rfl
 | cond c x y ihx ihy =>
  intro A H kn kx kr;simp only [aT, aK]
  generalize eF A c = v
  cases v with
  | bool b => cases b <;> first | exact ihx .. | exact ihy ..
  | _ => rfl
 | block id x ih =>
  intro A H kn kx kr;simp only [aT, aK];rw [ih, Option.bind_map]
  congr 1
  funext r
  obtain ⟨e, A1, H1⟩ := r
  cases e with
  | normal => rfl
  | exit i =>
   simp only [ahQ, Function.comp]
   split <;> rfl
  | ret => rfl
 | loop x ih =>
  intro A H kn kx kr;simp only [aT, aK, iC]
  cases h : o7 (aK P G call x) A H with
  | none => rfl
  | some r =>
   simp only [bo];have := Uz h;obtain ⟨e, A1, H1⟩ := r
   cases e with
   | normal => exact absurd rfl this
   | exit i => rfl
   | ret => rfl
 | rangeFunc => intros; rfl
 | scope => intros; rfl
 | goto => intros; rfl
 | refuse => intros; rfl
theorem Y8 (P : Program) (G : List Nat) (call : bg) (x : Code) (A : List Value) (H : AH) (kx : Nat → List Value → AH → Option R) (kr : List Value → AH → Option R) :
 iC P G call x A H kx kr = aT P G call x A H (fun A H => iC P G call x A H kx kr) kx kr := by
 rw [uq];unfold iC;rw [YV, Option.bind_assoc]
 congr 1
 funext r
 obtain ⟨e, A1, H1⟩ := r
 cases e <;> rfl
abbrev sI (P : Program) (A : List Value) (H : AH) : List ResultVar → (List Value → Option R) → Option R
 | [], k => k []
 | .tmp t :: rs, k => sI P A H rs fun vs => k (A[t]?.getD undef :: vs)
 | .cell a t :: rs, k => tb (eD P t) fun g => match g with
  | some n => (aC n (A[a]?.getD undef) H).bind fun v => sI P A H rs fun vs => k (v :: vs)
  | none => (au (A[a]?.getD undef) H).bind fun v => sI P A H rs fun vs => k (v :: vs)
theorem Y9 (P : Program) (A : List Value) (H : AH) : ∀ (rs : List ResultVar) (k : List Value → Option R), sI P A H rs k = (sD P A H rs).bind k := by
 intro rs
 induction rs with
 | nil => intro k; rfl
 | cons r rs ih =>
  intro k;simp only [sD, Option.bind_assoc, bo]
  cases r with
  | tmp t =>
   simp only [sI, kF, bo];rw [ih]
  | cell a t =>
   simp only [sI, kF, Option.bind_assoc, LG]
   congr 1
   funext g
   cases g <;> (simp only; congr 1; funext v; rw [ih])
end
def tup : List Value → Value
 | [v] => v
 | vs => .tuple vs.toArray
abbrev e6 (P : Program) (rs : List ResultVar) (A : List Value) (H : AH) : Option (Value × AH) := sI P A H rs fun vs => some (tup vs, H)
noncomputable def Qu (P : Program) (G : List Nat) (call : bg) (n : Nat) (rs : List ResultVar) (c : Code) (args : List Value) (H : AH) : Option (Value × AH) :=
 aT P G call c (args ++ List.replicate (n - args.length) undef) H (e6 P rs) (fun _ _ _ => none) (e6 P rs)
theorem Qv (P : Program) (rs : List ResultVar) (A : List Value) (H : AH) : e6 P rs A H = (iB P A H rs).map (·, H) := by
 unfold e6 iB;rw [Y9, Option.map_map]
 cases sD P A H rs with
 | none => rfl
 | some vs =>
  simp only [bo, dP, Function.comp]
  congr 2
theorem Y7 (P : Program) (G : List Nat) (call : bg) (n : Nat) (rs : List ResultVar) (c : Code) (args : List Value) (H : AH) : Qu P G call n rs c args H = o6 P G call n rs c args H := by
 unfold Qu o6;rw [uq]
 congr 1
 funext r
 obtain ⟨e, A1, H1⟩ := r
 cases e with
 | normal => exact Qv ..
 | exit i => rfl
 | ret => exact Qv ..
def bP (fn : Func) : Code := fn.body.getD .skip
theorem Md {P : Program} {G : List Nat} {f : Nat} {fn : Func} (hf : P.funcs[f]? = some fn) (hb : fn.body.isSome = true) (hn : (fn.name == "runtime.NumGoroutine") = false) (hd : j7 (bP fn) = none) {args : List Value} {H : AH} {r : Value × AH}
 (h : Qu P G (aF P G) fn.ntmps fn.results.toList (bP fn) args H = some r) : aF P G f args H = some r := by
 cases hc : fn.body with
 | none => rw [hc] at hb; cases hb
 | some c =>
  rw [Y7] at h;unfold bP at h hd;rw [hc] at h hd;exact anL hf hc (by simpa using hn) hd h
def Code.sub : Code → List Nat → Code
 | c, [] => c
 | .seq x _, 0 :: p => Code.sub x p
 | .seq _ y, 1 :: p => Code.sub y p
 | .cond _ x _, 2 :: p => Code.sub x p
 | .cond _ _ y, 3 :: p => Code.sub y p
 | .block _ x, 4 :: p => Code.sub x p
 | .loop x, 5 :: p => Code.sub x p
 | _, _ => .skip
def yv : Value → Option Bool
 | .bool b => some b
 | _ => none
def aW {R : Type} (cs : List Value) (H : AH) (k : Value → AH → Option R) : Option R := k (.pointer (some ⟨H.size, 0, none⟩)) (H.push (.cells false cs))
def aoK {R : Type} (len e : Nat) (cs : List Value) (H : AH) (k : Value → AH → Option R) : Option R := k (.slice (some ⟨H.size, 0, none⟩) len e) (H.push (.cells false cs))
def D3 {R : Type} (H : AH) (k : Value → AH → Option R) : Option R := k (.map (some H.size)) (H.push (.map [] 0))
def ep {R : Type} (x : Value) (k : Value → Option R) : Option R :=
 match x with
 | .slice _ n _ => k (.int .i64 n)
 | _ => none
def ai2 (x : Value) : Option Value :=
 match x with
 | .slice _ _ _ => pL x
 | _ => none
def aw {R : Type} (c : Value) (x y : Option R) : Option R :=
 match c with
 | .bool true => x
 | .bool false => y
 | _ => none
def ue {α : Type} (y : Option Bool) (want : Bool) (a b : Option α) : Option α :=
 match y == some want with
 | true => a
 | false => b
theorem aeA (a b : Value) : aM (.bool true) a b = some a := rfl
theorem kq (a b : Value) : aM (.bool false) a b = some b := rfl
abbrev vi (n : Int) : Value := .int .i64 n
abbrev vw (n : Int) : Value := .int .u64 n
abbrev vu (n : Nat) : Value := .int .u64 (n : Int)
abbrev vb (b : Bool) : Value := .bool b
inductive Stp where
 | n
 | f (k : Nat)
 | i (e : Nat) (v : Value)
 | a (len e : Nat) (v : Value)
def ad {R : Type} : List Stp → Value → (Value → Option R) → Option R
 | [], a, k => k a
 | .n :: p, a, k => (tO a).bind fun a => ad p a k
 | .f o :: p, a, k => (D6 o a).bind fun a => ad p a k
 | .i e v :: p, a, k => (nX e a v).bind fun a => ad p a k
 | .a len e v :: p, a, k => (iv len e a v).bind fun a => ad p a k
def ld {R : Type} (p : List Stp) (x : Value) (H : AH) (k : Value → Option R) : Option R := ad p x fun a => (au a H).bind k
def ldN {R : Type} (n : Nat) (p : List Stp) (x : Value) (H : AH) (k : Value → Option R) : Option R := ad p x fun a => (aC n a H).bind k
def st {R : Type} (n : Nat) (p : List Stp) (x v : Value) (H : AH) (k : AH → Option R) : Option R := ad p x fun a => (dc n a v H).bind k
def gB (c : Value) (want : Bool) (e : Option Value) : Option Value := ue (yv c) want (e.bind some) (some undef)
def gV (c : Value) (want : Bool) (e : Value) : Option Value := ue (yv c) want (some e) (some undef)
def gE (c : Value) (want : Bool) (H : AH) (e : Option (Value × AH)) : Option (Value × AH) := ue (yv c) want e (some (undef, H))
def yX {R : Type} (c : Value) (want : Bool) : List Stp → Value → (Value → Option R) → Option R
 | [], a, k => k a
 | .n :: p, a, k => (gB c want (tO a)).bind fun a => yX c want p a k
 | .f o :: p, a, k => (gB c want (D6 o a)).bind fun a => yX c want p a k
 | .i e v :: p, a, k => (gB c want (nX e a v)).bind fun a => yX c want p a k
 | .a len e v :: p, a, k => (gB c want (iv len e a v)).bind fun a => yX c want p a k
def fG {R : Type} (c : Value) (want : Bool) (p : List Stp) (x : Value) (H : AH) (k : Value → Option R) : Option R := yX c want p x fun a => (gB c want (au a H)).bind k
def pE {R : Type} (c : Value) (want : Bool) (n : Nat) (p : List Stp) (x : Value) (H : AH) (k : Value → Option R) : Option R := yX c want p x fun a => (gB c want (aC n a H)).bind k
def iz {R : Type} (ps : List (Nat × Nat)) (zero : List Value) (xs : List (Nat × Value)) (k : Value → Option R) : Option R := (cI (fun i => ps[i]?) zero xs).bind fun cs => k (.agg cs.toArray)
def ajA (e : Nat) (i : Nat) : Option (Nat × Nat) := some (i * e, e)
def ze {R : Type} (len e : Nat) (zero : List Value) (xs : List (Nat × Value)) (H : AH) (k : Value → AH → Option R) : Option R := (cI (ajA e) (List.replicate len zero).flatten xs).bind fun cs => aoK len e cs H k
def im (D : Nat) (A A' : List Value) : Prop := A.length = A'.length ∧ ∀ t, D.testBit t = false → A[t]? = A'[t]?
def jg (D : Nat) : Nat → List Value → List Value
 | _, [] => []
 | i, v :: vs => (match D.testBit i with | true => undef | false => v) :: jg D (i + 1) vs
def clear (D : Nat) (A : List Value) : List Value := jg D 0 A
theorem wF (D : Nat) : ∀ (A : List Value) (i : Nat), (jg D i A).length = A.length := by
 intro A
 induction A with
 | nil => intro i; rfl
 | cons v vs ih => intro i; simp [jg, ih]
theorem DR (D : Nat) : ∀ (A : List Value) (i t : Nat), D.testBit (i + t) = false → (jg D i A)[t]? = A[t]? := by
 intro A
 induction A with
 | nil => intro i t _; rfl
 | cons v vs ih =>
  intro i t h
  cases t with
  | zero => simp only [Nat.add_zero] at h; simp [jg, h]
  | succ t => simp only [jg, List.getElem?_cons_succ]; exact ih (i + 1) t (by rw [show i + 1 + t = i + (t + 1) from by omega]; exact h)
theorem iq (D : Nat) (A : List Value) : im D A (clear D A) := ⟨(wF D A 0).symm, fun t h => (DR D A 0 t (by simpa using h)).symm⟩
def ap {R : Type} (D : Nat) (k : List Value → AH → Option R) : Prop := ∀ A A' H, im D A A' → k A H = k A' H
def opr (D : Nat) : Operand → Bool
 | .tmp t => !D.testBit t
 | _ => true
def P5 (D : Nat) : Option Tmp → Nat
 | some d => match D.testBit d with | true => D ^^^ 2 ^ d | false => D
 | none => D
theorem ajZ {D : Nat} {d : Option Tmp} {t : Nat} (h : D.testBit t = false) : (P5 D d).testBit t = false := by
 unfold P5
 split
 ·split
  ·rename_i hd
   rw [Nat.testBit_xor, h, Nat.testBit_two_pow];simp;intro e;subst e; rw [h] at hd; cases hd
  ·exact h
 ·exact h
theorem aj0 {D : Nat} {d : Option Tmp} {t : Nat} (h : (P5 D d).testBit t = false) (hd : d ≠ some t) : D.testBit t = false := by
 unfold P5 at h
 split at h
 ·rename_i d
  split at h
  ·rename_i hb
   rw [Nat.testBit_xor, Nat.testBit_two_pow] at h;have : ¬ d = t := fun e => hd (by rw [e])
   simpa [this] using h
  ·exact h
 ·exact h
def tM (D : Nat) (ops : Array Oper) (o : Oper) : Bool :=
 o.op.operands.toList.all (opr D) && match o.guard with
 | none => true
 | some g => match (ops[g.1]?).bind (·.dst) with
  | some t => !D.testBit t
  | none => true
def nW (ops : Array Oper) : List Oper → Nat → Option Nat
 | [], D => some D
 | o :: rest, D => match tM D ops o with
  | true => nW ops rest (P5 D o.dst)
  | false => none
def rW : Code → Nat → Option Nat
 | .skip, D => some D
 | .label _, D => some D
 | .region _ ops _, D => nW ops ops.toList D
 | .seq x y, D => match rW x D with
  | some D1 => match rW y D1 with
   | some D2 => some D2
   | none => none
  | none => none
 | .cond c x y, D => match opr D c with
  | true => match rW x D, rW y D with
   | some D1, some D2 => some (D1 ||| D2)
   | _, _ => none
  | false => none
 | .block _ x, D => match rW x D with
  | some _ => some D
  | none => none
 | .loop x, D => match rW x D with
  | some _ => some D
  | none => none
 | .exit _, _ => some 0
 | .ret, _ => some 0
 | _, _ => none
section
variable {P : Program} {G : List Nat} {call : bg} {R : Type}
theorem im.mono {D D' : Nat} {A A' : List Value} (h : im D A A') (hm : ∀ t, D'.testBit t = false → D.testBit t = false) : im D' A A' := ⟨h.1, fun t ht => h.2 t (hm t ht)⟩
theorem im.ev {D : Nat} {A A' : List Value} (h : im D A A') {x : Operand} (hx : opr D x = true) : eF A x = eF A' x := by
 cases x with
 | tmp t => simp only [opr, Bool.not_eq_true'] at hx; simp only [eF]; rw [h.2 t hx]
 | _ => rfl
theorem im.put {D : Nat} {A A' : List Value} (h : im D A A') (d : Option Tmp) (v : Value) : im (P5 D d) (kE A d v) (kE A' d v) := by
 refine ⟨by rw [ma, ma, h.1], fun t ht => ?_⟩
 by_cases hd : d = some t
 ·subst hd; rw [zG, zG, h.1]
 ·rw [uk hd, uk hd]; exact h.2 t (aj0 ht hd)
theorem adR {ops : Array Oper} : ∀ {l : List Oper} {D D' : Nat}, nW ops l D = some D' → ∀ t, D.testBit t = false → D'.testBit t = false := by
 intro l
 induction l with
 | nil => intro D D' h t ht; simp only [nW] at h; cases h; exact ht
 | cons o l ih =>
  intro D D' h t ht;simp only [nW] at h
  split at h
  ·exact ih h t (ajZ ht)
  ·cases h
theorem HS : ∀ {c : Code} {D D' : Nat}, rW c D = some D' → ∀ t, D.testBit t = false → D'.testBit t = false := by
 intro c
 induction c with
 | skip => intro D D' h t ht; simp only [rW] at h; cases h; exact ht
 | label l => intro D D' h t ht; simp only [rW] at h; cases h; exact ht
 | region id ops draw => intro D D' h; simp only [rW] at h; exact adR h
 | seq x y ihx ihy =>
  intro D D' h t ht;simp only [rW] at h
  split at h
  ·rename_i D1 h1
   split at h
   ·rename_i D2 h2; cases h; exact ihy h2 t (ihx h1 t ht)
   ·cases h
  ·cases h
 | cond c x y ihx ihy =>
  intro D D' h t ht;simp only [rW] at h
  split at h
  ·split at h
   ·rename_i D1 D2 h1 h2; cases h
    rw [Nat.testBit_or, ihx h1 t ht, ihy h2 t ht]; rfl
   ·cases h
  ·cases h
 | block id x ih => intro D D' h t ht; simp only [rW] at h; split at h <;> cases h; exact ht
 | loop x ih => intro D D' h t ht; simp only [rW] at h; split at h <;> cases h; exact ht
 | exit id => intro D D' h t ht; simp only [rW] at h; cases h; simp
 | ret => intro D D' h t ht; simp only [rW] at h; cases h; simp
 | rangeFunc => intro D D' h; simp [rW] at h
 | scope => intro D D' h; simp [rW] at h
 | goto => intro D D' h; simp [rW] at h
 | refuse => intro D D' h; simp [rW] at h
inductive Both (D : Nat) : Option (List Value × AH) → Option (List Value × AH) → Prop
 | no : Both D none none
 | yes {A A' : List Value} (H : AH) (h : im D A A') : Both D (some (A, H)) (some (A', H))
theorem Yg {ops : Array Oper} {o : Oper} {D : Nat} (ho : tM D ops o = true) {A A' : List Value} (h : im D A A') (H : AH) : Both (P5 D o.dst) (fI P G call ops o A H) (fI P G call ops o A' H) := by
 unfold tM at ho;simp only [Bool.and_eq_true] at ho;have hev : ∀ x ∈ o.op.operands.toList, eF A x = eF A' x := fun x hx => h.ev (List.all_eq_true.1 ho.1 x hx)
 have hw : Region.wanted o (cV ops A) = Region.wanted o (cV ops A') := by
  unfold Region.wanted
  cases hg : o.guard with
  | none => rfl
  | some g =>
   obtain ⟨g, want⟩ := g;rw [hg] at ho
   have hy : cV ops A g = cV ops A' g := by
    unfold cV
    cases hd : (ops[g]?).bind (·.dst) with
    | none => rfl
    | some t =>
     have h2 := ho.2;simp only [hd, Bool.not_eq_true'] at h2;simp only [bo];rw [h.2 t h2]
   simp only [hy]
 unfold fI;rw [hw, nc hev H]
 split
 ·split
  ·cases dK P call (eF A') o H with
   | none => exact .no
   | some r => exact .yes r.2 (h.put o.dst r.1)
  ·exact .yes H (h.put o.dst undef)
 ·exact .no
theorem vr {ops : Array Oper} : ∀ {l : List Oper} {D D' : Nat}, nW ops l D = some D' → ∀ {A A' : List Value}, im D A A' → ∀ H, Both D' (cG P G call ops l A H) (cG P G call ops l A' H) := by
 intro l
 induction l with
 | nil => intro D D' h A A' hA H; simp only [nW] at h; cases h; exact .yes H hA
 | cons o l ih =>
  intro D D' h A A' hA H;simp only [nW] at h
  split at h
  ·rename_i ho
   simp only [cG];have := Yg (P := P) (G := G) (call := call) ho hA H
   generalize fI P G call ops o A H = x at this
   generalize fI P G call ops o A' H = y at this
   cases this with
   | no => exact .no
   | yes H1 hA1 => exact ih h hA1 H1
  ·cases h
theorem Ol {ops : Array Oper} : ∀ {l : List Oper} {D D' : Nat}, nW ops l D = some D' → ∀ i, ∃ Di, nW ops (l.take i) D = some Di ∧ ∀ o, l[i]? = some o → tM Di ops o = true := by
 intro l
 induction l with
 | nil => intro D D' h i; exact ⟨D, by cases i <;> rfl, fun o ho => by simp at ho⟩
 | cons o l ih =>
  intro D D' h i;simp only [nW] at h
  split at h
  ·rename_i ho
   cases i with
   | zero => exact ⟨D, rfl, fun o' ho' => by simp at ho'; subst ho'; exact ho⟩
   | succ i =>
    obtain ⟨Di, h1, h2⟩ := ih h i;refine ⟨Di, ?_, fun o' ho' => h2 o' (by simpa using ho')⟩;simp only [List.take_succ_cons, nW, ho];exact h1
  ·cases h
theorem UR {ops : Array Oper} {D D' : Nat} (h : nW ops ops.toList D = some D') {A A' : List Value} (hA : im D A A') (H : AH) : Both D' (l8 P G call ops A H) (l8 P G call ops A' H) := by
 unfold l8
 split
 ·exact .no
 ·split
  ·exact vr h hA H
  ·rename_i p ps hp
   have hb := vr (P := P) (G := G) (call := call) h hA H
   have key : cG P G call ops ops.toList A H ≠ none → ((∀ q ∈ p :: ps, jn P (jd P G call ops A H) ops q) ↔ ∀ q ∈ p :: ps, jn P (jd P G call ops A' H) ops q) := by
    intro hne
    have hst : ∀ i, ∃ Di, im Di (jd P G call ops A H i).1 (jd P G call ops A' H i).1 ∧ (jd P G call ops A H i).2 = (jd P G call ops A' H i).2 ∧ ∀ o, ops[i]? = some o → tM Di ops o = true := by
     intro i;obtain ⟨Di, h1, h2⟩ := Ol h i;have hbi := vr (P := P) (G := G) (call := call) h1 hA H
     cases hx : cG P G call ops ops.toList A H with
     | none => exact absurd hx hne
     | some r =>
      have h3 := wm hx i;rw [h3] at hbi;unfold jd at hbi ⊢;rw [h3] at hbi ⊢
      generalize cG P G call ops (ops.toList.take i) A' H = y at hbi
      simp only [Option.getD_some] at hbi ⊢
      generalize hz : jd P G call ops A H i = z at hbi
      unfold jd at hz;rw [h3] at hz;simp only [Option.getD_some] at hz
      cases hbi with
      | yes H1 hA1 =>
       exact ⟨Di, hA1, rfl, fun o ho => h2 o (by simpa using ho)⟩
    have one : ∀ q, jn P (jd P G call ops A H) ops q ↔ jn P (jd P G call ops A' H) ops q := by
     intro q;unfold jn;obtain ⟨D1, a1, e1, o1⟩ := hst q.1;obtain ⟨D2, a2, e2, o2⟩ := hst (if q.2 < q.1 then q.2 else q.2 + 1)
     constructor
     ·intro hl o ho
      have hev : ∀ x ∈ o.op.operands.toList, eF (jd P G call ops A H q.1).1 x = eF (jd P G call ops A' H q.1).1 x := fun x hx => a1.ev (by
       have := o1 o ho;unfold tM at this;simp only [Bool.and_eq_true] at this
       exact List.all_eq_true.1 this.1 x hx)
      have := hl o ho;rw [rr hev, rr hev, e1, e2] at this;exact this
     ·intro hl o ho
      have hev : ∀ x ∈ o.op.operands.toList, eF (jd P G call ops A H q.1).1 x = eF (jd P G call ops A' H q.1).1 x := fun x hx => a1.ev (by
       have := o1 o ho;unfold tM at this;simp only [Bool.and_eq_true] at this
       exact List.all_eq_true.1 this.1 x hx)
      rw [rr hev, rr hev, e1, e2];exact hl o ho
    exact ⟨fun hl q hq => (one q).1 (hl q hq), fun hl q hq => (one q).2 (hl q hq)⟩
   have hn : cG P G call ops ops.toList A H = none → cG P G call ops ops.toList A' H = none := by
    intro e; rw [e] at hb; generalize cG P G call ops ops.toList A' H = y at hb; cases hb; rfl
   by_cases hne : cG P G call ops ops.toList A H = none
   ·rw [hne, hn hne]
    unfold Jq
    have : ∀ (c : Prop) [Decidable c], (if c then (none : Option (List Value × AH)) else none) = none := fun c _ => by split <;> rfl
    rw [this, this]; exact .no
   ·unfold Jq
    by_cases hc : ∀ q ∈ p :: ps, jn P (jd P G call ops A H) ops q
    ·rw [if_pos hc, if_pos ((key hne).1 hc)]; exact hb
    ·rw [if_neg hc, if_neg (fun h => hc ((key hne).2 h))]; exact .no
inductive BothR (D D' : Nat) : Option AR → Option AR → Prop
 | no : BothR D D' none none
 | normal {A A' : List Value} (H : AH) (h : im D' A A') : BothR D D' (some (.normal, A, H)) (some (.normal, A', H))
 | exit (i : Nat) {A A' : List Value} (H : AH) (h : im D A A') : BothR D D' (some (.exit i, A, H)) (some (.exit i, A', H))
 | ret {A A' : List Value} (H : AH) (h : im D A A') : BothR D D' (some (.ret, A, H)) (some (.ret, A', H))
theorem Et : ∀ {c : Code} {D D' : Nat}, rW c D = some D' → ∀ {A A' : List Value}, im D A A' → ∀ H, BothR D D' (aK P G call c A H) (aK P G call c A' H) := by
 intro c
 induction c with
 | skip => intro D D' h A A' hA H; simp only [rW] at h; cases h; exact .normal H hA
 | label l => intro D D' h A A' hA H; simp only [rW] at h; cases h; exact .normal H hA
 | exit id => intro D D' h A A' hA H; exact .exit id H hA
 | ret => intro D D' h A A' hA H; exact .ret H hA
 | region id ops draw =>
  intro D D' h A A' hA H;simp only [rW] at h;simp only [aK]
  have hb : Both D' (ft P G call ops draw A H) (ft P G call ops draw A' H) := by
   cases draw with
   | true => exact UR h hA H
   | false => exact vr h hA H
  generalize ft P G call ops draw A H = x at hb
  generalize ft P G call ops draw A' H = y at hb
  cases hb with
  | no => exact .no
  | yes H1 hA1 => exact .normal H1 hA1
 | seq x y ihx ihy =>
  intro D D' h A A' hA H;simp only [rW] at h
  split at h
  ·rename_i D1 h1
   split at h
   ·rename_i D2 h2
    cases h;simp only [aK];have hb := ihx h1 hA H
    generalize aK P G call x A H = u at hb
    generalize aK P G call x A' H = v at hb
    cases hb with
    | no => exact .no
    | normal H1 hA1 =>
     have hb2 := ihy h2 hA1 H1;simp only [bo]
     rename_i A1 A1'
     generalize aK P G call y A1 H1 = u at hb2
     generalize aK P G call y A1' H1 = v at hb2
     cases hb2 with
     | no => exact .no
     | normal H2 hA2 => exact .normal H2 hA2
     | exit i H2 hA2 => exact .exit i H2 (hA2.mono (fun t ht => HS h1 t ht))
     | ret H2 hA2 => exact .ret H2 (hA2.mono (fun t ht => HS h1 t ht))
    | exit i H1 hA1 => exact .exit i H1 hA1
    | ret H1 hA1 => exact .ret H1 hA1
   ·cases h
  ·cases h
 | cond c x y ihx ihy =>
  intro D D' h A A' hA H;simp only [rW] at h
  split at h
  ·rename_i hc
   split at h
   ·rename_i D1 D2 h1 h2
    cases h;simp only [aK];rw [hA.ev hc]
    have m1 : ∀ t, (D1 ||| D2).testBit t = false → D1.testBit t = false := fun t ht => by rw [Nat.testBit_or, Bool.or_eq_false_iff] at ht; exact ht.1
    have m2 : ∀ t, (D1 ||| D2).testBit t = false → D2.testBit t = false := fun t ht => by rw [Nat.testBit_or, Bool.or_eq_false_iff] at ht; exact ht.2
    generalize eF A' c = v
    cases v with
    | bool b =>
     cases b with
     | true =>
      have hb := ihx h1 hA H;simp only
      generalize aK P G call x A H = u at hb
      generalize aK P G call x A' H = v at hb
      cases hb with
      | no => exact .no
      | normal H1 hA1 => exact .normal H1 (hA1.mono m1)
      | exit i H1 hA1 => exact .exit i H1 hA1
      | ret H1 hA1 => exact .ret H1 hA1
     | false =>
      have hb := ihy h2 hA H;simp only
      generalize aK P G call y A H = u at hb
      generalize aK P G call y A' H = v at hb
      cases hb with
      | no => exact .no
      | normal H1 hA1 => exact .normal H1 (hA1.mono m2)
      | exit i H1 hA1 => exact .exit i H1 hA1
      | ret H1 hA1 => exact .ret H1 hA1
    | _ => exact .no
   ·cases h
  ·cases h
 | block id x ih =>
  intro D D' h A A' hA H;simp only [rW] at h
  split at h <;> cases h
  rename_i D1 h1
  simp only [aK];have hb := ih h1 hA H
  generalize aK P G call x A H = u at hb
  generalize aK P G call x A' H = v at hb
  cases hb with
  | no => exact .no
  | normal H1 hA1 => exact .normal H1 (hA1.mono (fun t ht => HS h1 t ht))
  | exit i H1 hA1 =>
   simp only [dP]
   split
   ·exact .normal H1 hA1
   ·exact .exit i H1 hA1
  | ret H1 hA1 => exact .ret H1 hA1
 | loop x ih =>
  intro D D' h A A' hA H;simp only [rW] at h
  split at h <;> cases h
  rename_i D1 h1
  simp only [aK]
  have it : ∀ n {A A' : List Value} (H : AH), im D A A' → BothR D D (dU (aK P G call x) n A H) (dU (aK P G call x) n A' H) := by
   intro n
   induction n with
   | zero => intro A A' H _; exact .no
   | succ n ihn =>
    intro A A' H hA;simp only [dU];have hb := ih h1 hA H
    generalize aK P G call x A H = u at hb
    generalize aK P G call x A' H = v at hb
    cases hb with
    | no => exact .no
    | normal H1 hA1 => exact ihn H1 (hA1.mono (fun t ht => HS h1 t ht))
    | exit i H1 hA1 => exact .exit i H1 hA1
    | ret H1 hA1 => exact .ret H1 hA1
  cases hl : o7 (aK P G call x) A H with
  | some r =>
   obtain ⟨n, hn⟩ := cF.1 hl;have hb := it n H hA;rw [hn] at hb
   cases hm : dU (aK P G call x) n A' H with
   | none => rw [hm] at hb; cases hb
   | some r' =>
    rw [cF.2 ⟨n, hm⟩];rw [hm] at hb;exact hb
  | none =>
   cases hl' : o7 (aK P G call x) A' H with
   | none => exact .no
   | some r' =>
    obtain ⟨n, hn⟩ := cF.1 hl';have hb := it n H hA;rw [hn] at hb
    cases hm : dU (aK P G call x) n A H with
    | none => rw [hm] at hb; cases hb
    | some r => rw [cF.2 ⟨n, hm⟩] at hl; cases hl
 | rangeFunc => intro D D' h; simp [rW] at h
 | scope => intro D D' h; simp [rW] at h
 | goto => intro D D' h; simp [rW] at h
 | refuse => intro D D' h; simp [rW] at h
def Ec (D D' : Nat) : Bool := D ||| D' == D'
theorem Ua {D D' : Nat} (h : Ec D D' = true) : ∀ t, D'.testBit t = false → D.testBit t = false := by
 intro t ht;unfold Ec at h
 have e : D ||| D' = D' := by simpa using h
 rw [← e, Nat.testBit_or, Bool.or_eq_false_iff] at ht;exact ht.1
theorem ap.le {D D' : Nat} {k : List Value → AH → Option R} (h : ap D' k) (hs : Ec D D' = true) : ap D k := fun A A' H hA => h A A' H (hA.mono (Ua hs))
def xp (c : Code) (D D' : Nat) : Bool := match rW c D with
 | some D1 => Ec D1 D'
 | none => false
theorem XB {c : Code} {D D' : Nat} {kn : List Value → AH → Option R} {kx : Nat → List Value → AH → Option R} {kr : List Value → AH → Option R} (h : xp c D D' = true) (hn : ap D' kn) (hx : ∀ i, ap D (kx i)) (hr : ap D kr) :
 ap D (fun A H => aT P G call c A H kn kx kr) := by
 intro A A' H hA;unfold xp at h
 split at h
 ·rename_i D1 h1
  simp only;rw [uq, uq];have hb := Et (P := P) (G := G) (call := call) h1 hA H
  generalize aK P G call c A H = u at hb
  generalize aK P G call c A' H = v at hb
  cases hb with
  | no => rfl
  | normal H1 hA1 => exact hn _ _ H1 (hA1.mono (Ua h))
  | exit i H1 hA1 => exact hx i _ _ H1 hA1
  | ret H1 hA1 => exact hr _ _ H1 hA1
 ·cases h
theorem XC {c : Code} {D : Nat} {kx : Nat → List Value → AH → Option R} {kr : List Value → AH → Option R} (h : xp c D D = true) (hx : ∀ i, ap D (kx i)) (hr : ap D kr) :
 ap D (fun A H => iC P G call c A H kx kr) := by
 intro A A' H hA;unfold xp at h
 split at h
 ·rename_i D1 h1
  have hb := Et (P := P) (G := G) (call := call) (c := .loop c) (D := D) (D' := D) (by simp only [rW, h1]) hA H;simp only [aK] at hb;simp only [iC]
  generalize o7 (aK P G call c) A H = u at hb
  generalize o7 (aK P G call c) A' H = v at hb
  cases hb with
  | no => rfl
  | normal H1 hA1 => rfl
  | exit i H1 hA1 => exact hx i _ _ H1 hA1
  | ret H1 hA1 => exact hr _ _ H1 hA1
 ·cases h
def S3 (D : Nat) (rs : List ResultVar) : Bool := rs.all fun r => match r with
 | .tmp t => !D.testBit t
 | .cell a _ => !D.testBit a
theorem XD {D : Nat} : ∀ {rs : List ResultVar} (_ : S3 D rs = true) (k : List Value → AH → Option R), ap D (fun A H => sI P A H rs fun vs => k vs H) := by
 intro rs
 induction rs with
 | nil => intro _ k A A' H hA; rfl
 | cons r rs ih =>
  intro h k A A' H hA;unfold S3 at h;simp only [List.all_cons, Bool.and_eq_true] at h
  cases r with
  | tmp t =>
   simp only [Bool.not_eq_true'] at h;simp only [sI];rw [hA.2 t h.1];exact ih h.2 (fun vs H => k ((A'[t]?.getD undef) :: vs) H) A A' H hA
  | cell a t =>
   simp only [Bool.not_eq_true'] at h;simp only [sI];rw [hA.2 a h.1, LG, LG]
   congr 1
   funext g
   cases g <;> (simp only; congr 1; funext v; exact ih h.2 (fun vs H => k (v :: vs) H) A A' H hA)
theorem aeT {D : Nat} {rs : List ResultVar} (h : S3 D rs = true) : ap D (e6 P rs) := XD h fun vs H => some (tup vs, H)
theorem XE {D : Nat} : ap D (fun (_ : List Value) (_ : AH) => (none : Option R)) := fun _ _ _ _ => rfl
theorem Pa {D id : Nat} {kn : List Value → AH → Option R} {kx : Nat → List Value → AH → Option R} (hn : ap D kn) (hx : ∀ i, ap D (kx i)) : ∀ i, ap D (fun A H => if i = id then kn A H else kx i A H) := by
 intro i A A' H hA;simp only
 split
 ·exact hn _ _ _ hA
 ·exact hx i _ _ _ hA
theorem C4 {D : Nat} {n : List Value → AH → Option R} (h : ap D n) : ap D (fun A H => n (clear D A) H) := by
 intro A A' H hA;simp only;rw [← h A (clear D A) H (iq D A), ← h A' (clear D A') H (iq D A')];exact h A A' H hA
variable {A : List Value} {H : AH} {kn : List Value → AH → Option R} {kx : Nat → List Value → AH → Option R} {kr : List Value → AH → Option R}
theorem ahO {c x y : Code} {e : Operand} (h : c = .cond e x y) : aT P G call c A H kn kx kr = aw (eF A e) (aT P G call x A H kn kx kr) (aT P G call y A H kn kx kr) := by subst h; rfl
theorem Jl {c x : Code} {id : Nat} (h : c = .block id x) {D : Nat} {n : Nat → List Value → AH → Option R} (hn : n = fun i A H => if i = id then kn A H else kx i A H) (hD : ∀ i, ap D (n i)) :
 aT P G call c A H kn kx kr = aT P G call x A H kn (fun i A H => n i (clear D A) H) kr := by
 subst h
 have e : (fun i A H => n i (clear D A) H) = n := by
  funext i A H
  exact (hD i A (clear D A) H (iq D A)).symm
 rw [e, hn]; try rfl
theorem ai3 {c x : Code} (h : c = .loop x) : aT P G call c A H kn kx kr = iC P G call x A H kx kr := by subst h; rfl
theorem Og {x : Code} {D : Nat} {n : List Value → AH → Option R} (hn : n = fun A H => iC P G call x A H kx kr) (hD : ap D n) : iC P G call x A H kx kr = n (clear D A) H := by
 have := hD A (clear D A) H (iq D A);rw [← this, hn]
theorem Of {x : Code} {D : Nat} {n : List Value → AH → Option R} (hn : n = fun A H => iC P G call x A H kx kr) (hD : ap D n) :
 iC P G call x A H kx kr = aT P G call x A H (fun A H => n (clear D A) H) kx kr := by
 have e : (fun A H => n (clear D A) H) = n := by
  funext A H
  exact (hD A (clear D A) H (iq D A)).symm
 rw [e, hn]; exact Y8 ..
def Code.pre : Nat → Code → Code
 | 0, .seq x _ => x
 | k + 1, .seq x y => .seq x (Code.pre k y)
 | _, c => c
def Code.post : Nat → Code → Code
 | 0, .seq _ y => y
 | k + 1, .seq _ y => Code.post k y
 | _, _ => .skip
theorem amL : ∀ (k : Nat) (c : Code) (A : List Value) (H : AH), aT P G call c A H kn kx kr = aT P G call (Code.pre k c) A H (fun A H => aT P G call (Code.post k c) A H kn kx kr) kx kr := by
 intro k
 induction k with
 | zero => intro c A H; cases c <;> rfl
 | succ k ih =>
  intro c A H
  cases c with
  | seq x y =>
   have e : (fun A H => aT P G call y A H kn kx kr) = fun A H => aT P G call (Code.pre k y) A H (fun A H => aT P G call (Code.post k y) A H kn kx kr) kx kr := by
    funext A H; exact ih y A H
   show aT P G call x A H (fun A H => aT P G call y A H kn kx kr) kx kr = _;rw [e]; rfl
  | _ => rfl
variable {l T : Option R}
theorem amM {c : Code} {k D : Nat} {n : List Value → AH → Option R} (h0 : l = aT P G call c A H kn kx kr) (hn : n = fun A H => aT P G call (Code.post k c) A H kn kx kr) (hD : ap D n)
 (h1 : aT P G call (Code.pre k c) A H (fun A H => n (clear D A) H) kx kr = T) : l = T := by
 have e : (fun A H => n (clear D A) H) = n := by
  funext A H
  exact (hD A (clear D A) H (iq D A)).symm
 rw [e, hn] at h1;exact h0.trans ((amL k c A H).trans h1)
theorem Zk {v v' : Value} {x x' y y' : Option R} (h : v = v') (hx : x = x') (hy : y = y') : aw v x y = aw v' x' y' := by rw [h, hx, hy]
theorem ahP {c x y : Code} {e : Operand} (h0 : l = aT P G call c A H kn kx kr) (h : c = .cond e x y) (h1 : aw (eF A e) (aT P G call x A H kn kx kr) (aT P G call y A H kn kx kr) = T) : l = T := h0.trans ((ahO h).trans h1)
theorem Y6 {c x : Code} {id D : Nat} {n : Nat → List Value → AH → Option R} (h0 : l = aT P G call c A H kn kx kr) (h : c = .block id x) (hn : n = fun i A H => if i = id then kn A H else kx i A H) (hD : ∀ i, ap D (n i))
 (h1 : aT P G call x A H kn (fun i A H => n i (clear D A) H) kr = T) : l = T := h0.trans ((Jl h hn hD).trans h1)
theorem ai4 {c x : Code} {D : Nat} {n : List Value → AH → Option R} (h0 : l = aT P G call c A H kn kx kr) (h : c = .loop x) (hn : n = fun A H => iC P G call x A H kx kr) (hD : ap D n) (h1 : n (clear D A) H = T) : l = T :=
 h0.trans ((ai3 h).trans ((Og hn hD).trans h1))
theorem ai5 {x : Code} {D : Nat} {n : List Value → AH → Option R} (h0 : l = iC P G call x A H kx kr) (hn : n = fun A H => iC P G call x A H kx kr) (hD : ap D n)
 (h1 : aT P G call x A H (fun A H => n (clear D A) H) kx kr = T) : l = T := h0.trans ((Of hn hD).trans h1)
end
abbrev OV := Option (Value × AH)
abbrev u : Value := undef
abbrev KK := List Value → AH → OV
abbrev KX := Nat → List Value → AH → OV
noncomputable abbrev CK (P : Program) (G : List Nat) (call : bg) (c : Code) (kn : KK) (kx : KX) (kr : KK) : KK := fun A H => aT P G call c A H kn kx kr
noncomputable abbrev CL (P : Program) (G : List Nat) (call : bg) (c : Code) (kx : KX) (kr : KK) : KK := fun A H => iC P G call c A H kx kr
abbrev BX (id : Nat) (kn : KK) (kx : KX) : KX := fun i A H => if i = id then kn A H else kx i A H
abbrev dn (D : Nat) (n : KK) : KK := fun A H => n (clear D A) H
abbrev mJ (D : Nat) (n : KX) : KX := fun i A H => n i (clear D A) H
def bC : KX := fun _ _ _ => none
def an3 : Nat := 2 ^ 4096 - 1
def ls (l : List Value) (n : Nat) : List Value := l ++ List.replicate n u
section
variable {P : Program} {G : List Nat} {call : bg} {A : List Value} {H : AH} {kn : KK} {kx : KX} {kr : KK} {l T : OV}
theorem aA : ∀ i, ap an3 (bC i) := fun _ => XE
theorem rf {rs : List ResultVar} {D : Nat} (h : S3 D rs = true := by kernel_rfl) : ap D (e6 P rs) := aeT h
theorem rc {c : Code} {D Dn Dx Dr : Nat} (hn : ap Dn kn) (hx : ∀ i, ap Dx (kx i)) (hr : ap Dr kr) (h : (xp c D Dn && (Ec D Dx && Ec D Dr)) = true := by kernel_rfl) : ap D (CK P G call c kn kx kr) := by
 simp only [Bool.and_eq_true] at h;exact XB h.1 hn (fun i => (hx i).le h.2.1) (hr.le h.2.2)
theorem rl {c : Code} {D Dx Dr : Nat} (hx : ∀ i, ap Dx (kx i)) (hr : ap Dr kr) (h : (xp c D D && (Ec D Dx && Ec D Dr)) = true := by kernel_rfl) : ap D (CL P G call c kx kr) := by
 simp only [Bool.and_eq_true] at h;exact XC h.1 (fun i => (hx i).le h.2.1) (hr.le h.2.2)
theorem rb {D id Dn Dx : Nat} (hn : ap Dn kn) (hx : ∀ i, ap Dx (kx i)) (h : (Ec D Dn && Ec D Dx) = true := by kernel_rfl) : ∀ i, ap D (BX id kn kx i) := by
 simp only [Bool.and_eq_true] at h;exact Pa (hn.le h.1) (fun i => (hx i).le h.2)
theorem cd {D : Nat} {n : KK} (h : ap D n) : ap D (dn D n) := C4 h
theorem cx {D : Nat} {n : KX} (h : ∀ i, ap D (n i)) : ∀ i, ap D (mJ D n i) := fun i => C4 (h i)
theorem pt {c : Code} {D : Nat} {n : KK} (h0 : l = aT P G call c A H kn kx kr) (k : Nat) (hD : ap D n) (h1 : aT P G call (Code.pre k c) A H (dn D n) kx kr = T)
 (hn : n = fun A H => aT P G call (Code.post k c) A H kn kx kr := by kernel_rfl) : l = T := amM h0 hn hD h1
theorem ct {c : Code} (h0 : l = aT P G call c A H kn kx kr) (x y : Code) (e : Operand) {v : Value} {X Y : OV} (hx : aT P G call x A H kn kx kr = X) (hy : aT P G call y A H kn kx kr = Y)
 (h : c = .cond e x y := by kernel_rfl) (he : eF A e = v := by kernel_rfl) : l = aw v X Y := ahP h0 h (Zk he hx hy)
theorem bt {c : Code} {D : Nat} {n : KX} (h0 : l = aT P G call c A H kn kx kr) (x : Code) (id : Nat) (hD : ∀ i, ap D (n i)) (h1 : aT P G call x A H kn (mJ D n) kr = T)
 (h : c = .block id x := by kernel_rfl) (hn : n = fun i A H => if i = id then kn A H else kx i A H := by kernel_rfl) : l = T := Y6 h0 h hn hD h1
theorem li {c : Code} {D : Nat} {n : KK} (h0 : l = aT P G call c A H kn kx kr) (x : Code) (hD : ap D n) (h1 : n (clear D A) H = T) (h : c = .loop x := by kernel_rfl)
 (hn : n = fun A H => iC P G call x A H kx kr := by kernel_rfl) : l = T := ai4 h0 h hn hD h1
theorem pK {x : Code} {D : Nat} {n : KK} (h0 : l = iC P G call x A H kx kr) (hD : ap D n) (h1 : aT P G call x A H (dn D n) kx kr = T)
 (hn : n = fun A H => iC P G call x A H kx kr := by kernel_rfl) : l = T := ai5 h0 hn hD h1
theorem gF {id : Nat} (h0 : l = BX id kn kx id A H) (h1 : kn A H = T) : l = T := by rw [h0, ← h1]; simp [BX]
theorem fo {f : Nat} {fn : Func} (hf : P.funcs[f]? = some fn) {args : List Value} {t : OV} {r : Value × AH} (e : Qu P G (aF P G) fn.ntmps fn.results.toList (bP fn) args H = t) (h : t = some r)
 (hb : fn.body.isSome = true := by kernel_rfl) (hn : (fn.name == "runtime.NumGoroutine") = false := by kernel_rfl) (hd : j7 (bP fn) = none := by kernel_rfl) : aF P G f args H = some r := Md hf hb hn hd (e.trans h)
end
end Go.Proofs.YtghoamdlcjdfjaaGreatDoor.Gst
namespace Go.Proofs.YtghoamdlcjdfjaaGreatDoor.Gst
open Go Go.RowKit Go.ChangeShapes
set_option linter.unusedSimpArgs false
def eR (H H' : AH) : Prop := H.size ≤ H'.size ∧ ∀ b, b < H.size → H'.get b = H.get b
theorem eR.refl (H : AH) : eR H H := ⟨bj _, fun _ _ => rfl⟩
theorem eR.trans {A B C : AH} (h : eR A B) (k : eR B C) : eR A C := ⟨dZ h.1 k.1, fun b hb => by rw [k.2 b (by have := h.1; omega), h.2 b hb]⟩
theorem eR.push (H : AH) (o : AObj) : eR H (H.push o) := ⟨by rw [AH.size_push]; omega, fun b hb => AH.get_push_old hb⟩
theorem eR.get {H H' : AH} (h : eR H H') {b : Nat} {o : AObj} (hb : H.get b = some o) : H'.get b = some o := by rw [h.2 b (AH.lt_of_get hb)]; exact hb
inductive Ty where
 | int (k : IntKind)
 | bool
 | slice (t : Ty)
 | unit
 | pair (a b : Ty)
def Ty.w : Ty → Nat
 | .int _ | .bool | .slice _ => 1
 | .unit => 0
 | .pair a b => a.w + b.w
abbrev Ty.I : Ty → Type
 | .int _ => Int
 | .bool => Bool
 | .slice t => List t.I
 | .unit => Unit
 | .pair a b => a.I × b.I
inductive j6 {α : Type} (R : α → List Value → Prop) : List α → List Value → Prop
 | nil : j6 R [] []
 | cons {x : α} {l : List α} {c cs : List Value} (h : R x c) (k : j6 R l cs) : j6 R (x :: l) (c ++ cs)
def Abs (H : AH) : (t : Ty) → t.I → List Value → Prop
 | .int k, n, cs => cs = [.int k n] ∧ (Lit.int k n).wf = true
 | .bool, b, cs => cs = [.bool b]
 | .unit, _, cs => cs = []
 | .pair a b, x, cs => ∃ c1 c2, cs = c1 ++ c2 ∧ Abs H a x.1 c1 ∧ Abs H b x.2 c2
 | .slice t, l, cs => (l = [] ∧ cs = [.slice none 0 0]) ∨ (l = [] ∧ ∃ b, cs = [.slice (some ⟨b, 0, none⟩) 0 0]) ∨
  ∃ b row, H.get b = some (.cells true row) ∧ cs = [.slice (some ⟨b, 0, none⟩) l.length t.w] ∧ j6 (Abs H t) l row ∧ l.length ≤ maxLen
theorem j6.mono {α : Type} {R S : α → List Value → Prop} (h : ∀ x c, R x c → S x c) {l : List α} {cs : List Value} (k : j6 R l cs) : j6 S l cs := by
 induction k with
 | nil => exact .nil
 | cons h1 _ ih => exact .cons (h _ _ h1) ih
theorem Abs.keep {H H' : AH} (k : eR H H') : ∀ (t : Ty) (x : t.I) (cs : List Value), Abs H t x cs → Abs H' t x cs := by
 intro t
 induction t with
 | int k => intro x cs h; exact h
 | bool => intro x cs h; exact h
 | unit => intro x cs h; exact h
 | pair a b iha ihb =>
  intro x cs h;obtain ⟨c1, c2, e, h1, h2⟩ := h;exact ⟨c1, c2, e, iha _ _ h1, ihb _ _ h2⟩
 | slice t ih =>
  intro x cs h
  rcases h with h | h | ⟨b, row, h1, h2, h3, h4⟩
  ·exact .inl h
  ·exact .inr (.inl h)
  ·exact .inr (.inr ⟨b, row, k.get h1, h2, h3.mono ih, h4⟩)
theorem j6.length {α : Type} {R : α → List Value → Prop} {n : Nat} (h : ∀ x c, R x c → c.length = n) {l : List α} {cs : List Value} (k : j6 R l cs) : cs.length = l.length * n := by
 induction k with
 | nil => simp
 | cons h1 _ ih => rw [dh, h _ _ h1, ih, List.length_cons, Nat.add_mul]; omega
theorem Abs.length {H : AH} : ∀ (t : Ty) (x : t.I) (cs : List Value), Abs H t x cs → cs.length = t.w := by
 intro t
 induction t with
 | int k => intro x cs h; rw [h.1]; rfl
 | bool => intro x cs h; have h : cs = _ := h; rw [h]; rfl
 | unit => intro x cs h; have h : cs = _ := h; rw [h]; rfl
 | pair a b iha ihb =>
  intro x cs h;obtain ⟨c1, c2, e, h1, h2⟩ := h;rw [e, dh, iha _ _ h1, ihb _ _ h2]; rfl
 | slice t ih =>
  intro x cs h
  rcases h with h | ⟨_, b, h⟩ | ⟨b, row, h1, h2, h3, h4⟩
  ·rw [h.2]; rfl
  ·rw [h]; rfl
  ·rw [h2]; rfl
def Ap : (t : Ty) → t.I → Prop
 | .int _, _ => True
 | .bool, _ => True
 | .unit, _ => True
 | .pair a b, x => Ap a x.1 ∧ Ap b x.2
 | .slice t, l => l.length ≤ reachBytes ∧ ∀ x ∈ l, Ap t x
def wOK {Hd : Type} (P : Program) (t : TypeId) (d : DataW Hd) : Prop := ∀ n ∈ DataW.weights P t d, n ≤ reachBytes
theorem ri {Hd : Type} {P : Program} {e : TypeId} {d : DataW Hd} {n : Nat} : ∀ {l : List (DataW Hd)}, d ∈ l → n ∈ DataW.weights P e d → n ∈ DataW.weightsAll P e l := by
 intro l
 induction l with
 | nil => intro h; cases h
 | cons x l ih =>
  intro h hn;rw [DataW.weightsAll, List.mem_append]
  rcases sm.1 h with rfl | h
  ·exact .inl hn
  ·exact .inr (ih h hn)
theorem zF {Hd : Type} {P : Program} {n : Nat} : ∀ {ts : List TypeId} {ds : List (DataW Hd)} {i : Nat} {t : TypeId} {d : DataW Hd}, ts[i]? = some t → ds[i]? = some d → n ∈ DataW.weights P t d → n ∈ DataW.weightsEach P ts ds := by
 intro ts
 induction ts with
 | nil => intro ds i t d h; simp at h
 | cons t0 ts ih =>
  intro ds i t d h1 h2 hn
  cases ds with
  | nil => simp at h2
  | cons d0 ds =>
   rw [DataW.weightsEach, List.mem_append]
   cases i with
   | zero =>
    simp at h1 h2;subst h1; subst h2;exact .inl hn
   | succ i => exact .inr (ih (by simpa using h1) (by simpa using h2) hn)
def pC (P : Program) : Ty → (TypeId → Bool) × (List Field → Nat → Bool)
 | .int k => (fun t => match P.underlying t with | some (.int k') => k' == k && P.cellsOf t == 1 | _ => false, fun _ _ => false)
 | .bool => (fun t => match P.underlying t with | some .bool => P.cellsOf t == 1 | _ => false, fun _ _ => false)
 | .slice ty => (fun t => match P.underlying t with | some (.slice e) => (pC P ty).1 e && P.cellsOf e == ty.w && decide (0 < ty.w ∧ 0 < P.bytesOf e) && P.cellsOf t == 1 | _ => false, fun _ _ => false)
 | .unit => (fun _ => false, fun fs _ => fs.isEmpty)
 | .pair a b =>
  let F : List Field → Nat → Bool := fun fs off => match fs with
   | f :: fs => f.offset == off && (pC P a).1 f.type && P.cellsOf f.type == a.w && (pC P b).2 fs (off + a.w)
   | [] => false
  (fun t => match P.underlying t with | some (.struct fs) => P.cellsOf t == a.w + b.w && F fs.toList 0 | _ => false, F)
section
variable {Hd : Type} {enc : TypeId × Value → Hd} {P : Program} {w : World} {held : Bool}
theorem Rel.pushRo {B : Nat} {w0 : World} {ρ : bv} {H : AH} (h : Rel P w0 B ρ H w) {row : List Value} {c d sz : Nat} (hc : c < w.heap.size) (hcB : c < B) (hor : pQ P ρ d sz (.cells true row) w.heap[c]?) :
 Rel P w0 B (ρ.upd H.size (c, d, sz)) (H.push (.cells true row)) w := by
 have hnone : ρ H.size = none := by
  cases hn : ρ H.size with
  | none => rfl
  | some x => have := h.dom _ _ hn; omega
 have hle := bv.upd_le (x := (c, d, sz)) hnone
 have key : ∀ b1 o1, (H.push (.cells true row)).get b1 = some o1 → (b1 = H.size ∧ o1 = .cells true row) ∨ (b1 < H.size ∧ H.get b1 = some o1) := by
  intro b1 o1 h1;rw [AH.get_push] at h1
  by_cases hb1 : b1 = H.size
  ·rw [if_pos hb1] at h1; exact .inl ⟨hb1, (fi h1).symm⟩
  ·rw [if_neg hb1] at h1; exact .inr ⟨AH.lt_of_get h1, h1⟩
 have old : ∀ {b1 c1 d1 sz1}, b1 < H.size → ρ.upd H.size (c, d, sz) b1 = some (c1, d1, sz1) → ρ b1 = some (c1, d1, sz1) := by
  intro b1 c1 d1 sz1 hb1 hx
  rwa [bv.upd_ne (by omega)] at hx
 have new : ∀ {c1 d1 sz1}, ρ.upd H.size (c, d, sz) H.size = some (c1, d1, sz1) → c1 = c ∧ d1 = d ∧ sz1 = sz := by
  intro c1 d1 sz1 hx;rw [bv.upd_same] at hx;cases hx;exact ⟨rfl, rfl, rfl⟩
 refine ⟨h.base, h.below, ?_, ?_, ?_, ?_, ?_, ?_⟩
 ·intro b1 x hx
  rw [AH.size_push]
  by_cases hb1 : b1 = H.size
  ·omega
  ·rw [bv.upd_ne hb1] at hx; have := h.dom b1 x hx; omega
 ·intro b1 c1 d1 sz1 hx
  by_cases hb1 : b1 = H.size
  ·subst hb1
   obtain ⟨rfl, _, _⟩ := new hx;exact hc
  ·rw [bv.upd_ne hb1] at hx; exact h.blk b1 c1 d1 sz1 hx
 ·intro b1 c1 d1 sz1 o1 hx h1
  rcases key b1 o1 h1 with ⟨rfl, rfl⟩ | ⟨hb1, h1⟩
  ·obtain ⟨rfl, rfl, rfl⟩ := new hx
   exact hor.mono hle
  ·exact (h.obj b1 c1 d1 sz1 o1 (old hb1 hx) h1).mono hle
 ·intro b1 c1 d1 sz1 o1 hx h1 hrw
  rcases key b1 o1 h1 with ⟨rfl, rfl⟩ | ⟨hb1, h1⟩
  ·cases hrw
  ·exact h.own b1 c1 d1 sz1 o1 (old hb1 hx) h1 hrw
 ·intro b1 c1 d1 sz1 cs1 hx h1
  rcases key b1 _ h1 with ⟨rfl, _⟩ | ⟨hb1, h1⟩
  ·obtain ⟨rfl, _, _⟩ := new hx
   exact hcB
  ·exact h.ro b1 c1 d1 sz1 cs1 (old hb1 hx) h1
 ·intro b1 b2 c1 d1 d2 sz1 sz2 o1 o2 hx1 hx2 h1 h2 hr1 hr2
  rcases key b1 o1 h1 with ⟨rfl, rfl⟩ | ⟨hb1, h1⟩
  ·cases hr1
  ·rcases key b2 o2 h2 with ⟨rfl, rfl⟩ | ⟨hb2, h2⟩
   ·cases hr2
   ·exact h.inj b1 b2 c1 d1 d2 sz1 sz2 o1 o2 (old hb1 hx1) (old hb2 hx2) h1 h2 hr1 hr2
theorem La {B : Nat} {w0 : World} {ρ : bv} {H : AH} (h : Rel P w0 B ρ H w) (x : Nat × Nat × Nat) : ∀ b y, ρ b = some y → ρ.upd H.size x b = some y :=
 bv.upd_le (by
  cases hn : ρ H.size with
  | none => rfl
  | some x => have := h.dom _ _ hn; omega)
def Got (P : Program) (w : World) (ρ : bv) (H : AH) (ty : Ty) (cs : List Value) (ρ' : bv) (H' : AH) : Prop :=
 ∃ x avs, Rel P w w.heap.size ρ' H' w ∧ (∀ b y, ρ b = some y → ρ' b = some y) ∧ eR H H' ∧ LRel P ρ' avs cs ∧ Abs H' ty x avs ∧ Ap ty x
theorem yd {fuel : Nat} {t : TypeId} {cs : List Value} {x : DataW Hd × List MemPlace} (h : DataW.trod enc P w 0 (fun _ => true) held fuel t cs = some x) : ∃ n, fuel = n + 1 := by
 cases fuel with
 | zero => simp [DataW.trod] at h
 | succ n => exact ⟨n, rfl⟩
theorem TD {ty : Ty} {e : TypeId} {n : Nat} (ih : ∀ (cs : List Value) (x : DataW Hd × List MemPlace) (ρ : bv) (H : AH), Rel P w w.heap.size ρ H w → DataW.trod enc P w 0 (fun _ => true) held n e cs = some x → wOK P e x.1 → ∃ ρ' H', Got P w ρ H ty cs ρ' H')
 (a : Addr) : ∀ (m i : Nat) (ρ : bv) (H : AH), Rel P w w.heap.size ρ H w → (∀ j, i ≤ j → j < i + m → ∃ y, (w.cells? 0 (a.add (j * ty.w)) ty.w).bind (DataW.trod enc P w 0 (fun _ => true) held n e) = some y ∧ wOK P e y.1) →
  ∃ ρ' H' l row cc, Rel P w w.heap.size ρ' H' w ∧ (∀ b y, ρ b = some y → ρ' b = some y) ∧ eR H H' ∧ l.length = m ∧ j6 (Abs H' ty) l row ∧ LRel P ρ' row cc ∧ (∀ k, k < m * ty.w → w.cell? (a.add (i * ty.w + k)) = cc[k]?) ∧ cc.length = m * ty.w ∧ ∀ x ∈ l, Ap ty x := by
 intro m
 induction m with
 | zero =>
  intro i ρ H hR _;exact ⟨ρ, H, [], [], [], hR, fun _ _ h => h, eR.refl H, rfl, .nil, LRel.nil, fun k hk => by omega, by simp, fun x hx => by cases hx⟩
 | succ m ihm =>
  intro i ρ H hR hel;obtain ⟨y, hy, hwy⟩ := hel i (bj _) (by omega);obtain ⟨cs, hcs, hy⟩ := aG.1 hy;obtain ⟨ρ1, H1, x, avs, hR1, hle1, hk1, hl1, ha1, hs1⟩ := ih cs y ρ H hR hy hwy;obtain ⟨ρ2, H2, l, row, cc, hR2, hle2, hk2, hlen, hrow, hl2, hcell, hcl, hs2⟩ := ihm (i + 1) ρ1 H1 hR1 (fun j h1 h2 => hel j (by omega) (by omega));obtain ⟨_, hcsl, hcsg⟩ := World.cells?_some hcs;refine ⟨ρ2, H2, x :: l, avs ++ row, cs ++ cc, hR2, fun b y h => hle2 b y (hle1 b y h), hk1.trans hk2, by simp [hlen], .cons (Abs.keep hk2 ty x avs ha1) hrow, (hl1.mono hle2).append hl2, ?_, ?_, ?_⟩
  ·intro k hk
   have hmul : (m + 1) * ty.w = ty.w + m * ty.w := by rw [Nat.add_mul]; omega
   have hmul2 : (i + 1) * ty.w = i * ty.w + ty.w := by rw [Nat.add_mul]; omega
   by_cases hkw : k < ty.w
   ·rw [List.getElem?_append_left (by omega), ← hcsg k hkw]
    congr 1
    unfold Addr.add
    repeat' split
    all_goals first | rfl | omega | (simp; done) | (simp; omega)
   ·rw [List.getElem?_append_right (by omega), hcsl, ← hcell (k - ty.w) (by omega), hmul2]
    congr 2
    omega
  ·rw [dh, hcsl, hcl, Nat.add_mul]; omega
  ·intro z hz
   rcases sm.1 hz with rfl | hz
   ·exact hs1
   ·exact hs2 z hz
theorem agA : ∀ (ty : Ty),
 (∀ (t : TypeId), (pC P ty).1 t = true → ∀ (fuel : Nat) (cs : List Value) (x : DataW Hd × List MemPlace) (ρ : bv) (H : AH), Rel P w w.heap.size ρ H w → DataW.trod enc P w 0 (fun _ => true) held fuel t cs = some x → wOK P t x.1 → ∃ ρ' H', Got P w ρ H ty cs ρ' H') ∧
 (∀ (fs : List Field) (off : Nat), (pC P ty).2 fs off = true → ∀ (fuel : Nat) (cs : List Value) (ρ : bv) (H : AH), Rel P w w.heap.size ρ H w → cs.length = off + ty.w →
  (∀ f ∈ fs, ∃ y, DataW.trod enc P w 0 (fun _ => true) held fuel f.type ((cs.drop f.offset).take (P.cellsOf f.type)) = some y ∧ wOK P f.type y.1) → ∃ ρ' H', Got P w ρ H ty (cs.drop off) ρ' H') := by
 intro ty
 induction ty with
 | int k =>
  refine ⟨?_, fun fs off h => by cases h⟩;intro t ht fuel cs x ρ H hR h hwx;obtain ⟨n, rfl⟩ := yd h;simp only [pC] at ht
  split at ht
  ·rename_i k' hu
   simp only [Bool.and_eq_true, beq_iff_eq] at ht;obtain ⟨rfl, _⟩ := ht;obtain ⟨n, rfl, _, hw⟩ := DataW.trod_int hu h;exact ⟨ρ, H, n, [.int k' n], hR, fun _ _ h => h, eR.refl H, LRel.of_all rfl, ⟨rfl, hw⟩, trivial⟩
  ·cases ht
 | bool =>
  refine ⟨?_, fun fs off h => by cases h⟩;intro t ht fuel cs x ρ H hR h hwx;obtain ⟨n, rfl⟩ := yd h;simp only [pC] at ht
  split at ht
  ·rename_i hu
   obtain ⟨b, rfl, _⟩ := DataW.trod_bool hu h;exact ⟨ρ, H, b, [.bool b], hR, fun _ _ h => h, eR.refl H, LRel.of_all rfl, rfl, trivial⟩
  ·cases ht
 | unit =>
  refine ⟨fun t h => by (cases h), ?_⟩;intro fs off hfs fuel cs ρ H hR hl h;refine ⟨ρ, H, (), [], hR, fun _ _ h => h, eR.refl H, ?_, rfl, trivial⟩;have : cs.drop off = [] := List.drop_eq_nil_of_le (by simp [Ty.w] at hl; omega);rw [this]; exact LRel.nil
 | slice ty ih =>
  refine ⟨?_, fun fs off h => by cases h⟩;intro t ht fuel cs x ρ H hR h hwx;simp only [pC] at ht
  split at ht
  ·rename_i e hu
   simp only [Bool.and_eq_true, beq_iff_eq, decide_eq_true_eq] at ht;obtain ⟨⟨⟨ht, he⟩, hw, hby⟩, _⟩ := ht
   rcases DataW.trod_slice hu h with ⟨rfl, _⟩ | ⟨a, len, cap, elems, rest, n, rfl, rfl, hx, _, hlc, hcm, hlen, hel, hsp, _⟩
   ·exact ⟨ρ, H, [], [.slice none 0 0], hR, fun _ _ h => h, eR.refl H, LRel.of_all rfl, .inl ⟨rfl, rfl⟩, Nat.zero_le _, fun x hx => by cases hx⟩
   ·have hwt : DataW.weights P t x.1 = (elems.length + rest.length) * P.bytesOf e :: (DataW.weightsAll P e (elems.map (·.1)) ++ DataW.weightsAll P e (rest.map (·.1))) := by
     rw [hx];unfold DataW.weights;rw [hu];simp
    have hreach : len ≤ reachBytes := by
     have h1 := hwx _ (by rw [hwt]; exact List.mem_cons_self)
     have h2 : len + rest.length ≤ (elems.length + rest.length) * P.bytesOf e := by
      rw [hlen]
      exact Nat.le_mul_of_pos_right _ hby
     omega
    have hwe : ∀ (y : DataW Hd × List MemPlace), (y ∈ elems ∨ y ∈ rest) → wOK P e y.1 := by
     intro y hy n hn;refine hwx n ?_;rw [hwt, sm, List.mem_append]
     rcases hy with hy | hy
     ·exact .inr (.inl (ri (List.mem_map.2 ⟨y, hy, rfl⟩) hn))
     ·exact .inr (.inr (ri (List.mem_map.2 ⟨y, hy, rfl⟩) hn))
    rw [he] at hel hsp
    by_cases hc0 : cap = 0
    ·subst hc0
     obtain rfl : len = 0 := by omega
     exact ⟨ρ, H, [], [.slice (some ⟨0, 0, none⟩) 0 0], hR, fun _ _ h => h, eR.refl H, LRel.cons .empty LRel.nil, .inr (.inl ⟨rfl, 0, rfl⟩), Nat.zero_le _, fun x hx => by cases hx⟩
    ·have all : ∀ j, 0 ≤ j → j < 0 + cap → ∃ y, (w.cells? 0 (a.add (j * ty.w)) ty.w).bind (DataW.trod enc P w 0 (fun _ => true) held n e) = some y ∧ wOK P e y.1 := by
      intro j _ hj
      by_cases hjl : j < len
      ·rw [hel j hjl]
       exact ⟨elems[j]'(by omega), br (by omega), hwe _ (.inl (Ku _))⟩
      ·obtain ⟨hr1, hr2⟩ := hsp rfl
       have := hr2 (j - len) (by omega);rw [show len + (j - len) = j from by omega] at this;rw [this];exact ⟨rest[j - len]'(by omega), br (by omega), hwe _ (.inr (Ku _))⟩
     -- all cells of its room are there
     obtain ⟨_, _, _, _, cca, _, _, _, _, _, _, hca, hcal, _⟩ := TD (fun cs x ρ H => ih.1 e ht n cs x ρ H) a cap 0 ρ H hR all;obtain ⟨ρ1, H1, l, row, cc, hR1, hle1, hk1, hll, hrow, hl1, hcell, hcl, hsm⟩ := TD (fun cs x ρ H => ih.1 e ht n cs x ρ H) a len 0 ρ H hR (fun j h1 h2 => all j h1 (by omega));have hpos : 0 < cap * ty.w := Nat.mul_pos (by omega) hw;have h0 := hca 0 hpos;have hsome : ∃ v, cca[0]? = some v := ⟨cca[0]'(by omega), br (by omega)⟩;obtain ⟨v0, hv0⟩ := hsome;rw [hv0] at h0
     have hadd0 : a.add (0 * ty.w + 0) = a := by simp [Addr.add]
     rw [hadd0] at h0;unfold World.cell? at h0
     split at h0
     ·rename_i c el fz hblk
      split at h0
      ·cases h0
      ·rename_i hspot
       obtain ⟨ab, ao, as'⟩ := a
       have : as' = none := by cases as' with | none => rfl | some _ => simp at hspot
       subst this
       have cellsAt : ∀ k, k < cap * ty.w → c[ao + k]? = cca[k]? := by
        intro k hk;have := hca k hk;rw [show 0 * ty.w + k = k from by omega, Addr.add_lit] at this;unfold World.cell? at this;simp only [hblk, Option.isSome_none] at this
        simpa using this
       have hfit : ao + cap * ty.w ≤ c.size := by
        have := cellsAt (cap * ty.w - 1) (by omega);rw [br (by omega)] at this;have := (Array.getElem?_eq_some_iff.1 this).1;omega
       have hsub : len * ty.w ≤ cap * ty.w := Nat.mul_le_mul_right _ hlc
       have hrl : row.length = len * ty.w := by rw [hl1.1, hcl]
       have hccs : (c.toList.drop ao).take row.length = cc := by
        apply List.ext_getElem?;intro k;rw [hrl, List.getElem?_take]
        by_cases hk : k < len * ty.w
        ·rw [if_pos hk, List.getElem?_drop]
         have h1 := hcell k hk;rw [show 0 * ty.w + k = k from by omega, Addr.add_lit] at h1;unfold World.cell? at h1;simp only [hblk, Option.isSome_none] at h1;rw [← h1];simp
        ·rw [if_neg hk, List.getElem?_eq_none (by omega)]
       have hblk' : w.heap[ab]? = some (.cells c el fz) := hblk;have hab : ab < w.heap.size := (Array.getElem?_eq_some_iff.1 hblk').1;have hp := hR1.pushRo (row := row) (c := ab) (d := ao) (sz := c.size) hab hab ⟨c, el, fz, hblk', rfl, by omega, (fun h => by cases h), by rw [hccs]; exact hl1⟩;have hkp := eR.push H1 (.cells true row);refine ⟨_, _, l, [.slice (some ⟨H1.size, 0, none⟩) l.length ty.w], hp, fun b y h => La hR1 _ b y (hle1 b y h), hk1.trans hkp, LRel.cons ?_ LRel.nil, .inr (.inr ⟨H1.size, row, AH.get_push_new _ _, rfl, hrow.mono (Abs.keep hkp ty), by omega⟩), by rw [hll]; exact hreach, hsm⟩;rw [hll];have := VRel.slice (P := P) (ρ := ρ1.upd H1.size (ab, ao, c.size)) (b := H1.size) (o := 0) (n := len) (e := ty.w) (c := ab) (d := ao) (sz := c.size) (k := cap) (bv.upd_same ..) (by omega) hlc hw
       simpa using this
     ·cases h0
  ·cases ht
 | pair a b iha ihb =>
  have fields : ∀ (fs : List Field) (off : Nat), (pC P (.pair a b)).2 fs off = true → ∀ (fuel : Nat) (cs : List Value) (ρ : bv) (H : AH), Rel P w w.heap.size ρ H w → cs.length = off + (a.w + b.w) →
   (∀ f ∈ fs, ∃ y, DataW.trod enc P w 0 (fun _ => true) held fuel f.type ((cs.drop f.offset).take (P.cellsOf f.type)) = some y ∧ wOK P f.type y.1) → ∃ ρ' H', Got P w ρ H (.pair a b) (cs.drop off) ρ' H' := by
   intro fs off hfs fuel cs ρ H hR hl h;simp only [pC] at hfs
   cases fs with
   | nil => cases hfs
   | cons f fs =>
    simp only [Bool.and_eq_true, beq_iff_eq] at hfs;obtain ⟨⟨⟨h1, h2⟩, h3⟩, h4⟩ := hfs;obtain ⟨y, hy, hwy⟩ := h f (by simp);rw [h1, h3] at hy;obtain ⟨ρ1, H1, x1, a1, hR1, hle1, hk1, hl1, ha1, hs1⟩ := iha.1 f.type h2 fuel _ y ρ H hR hy hwy;obtain ⟨ρ2, H2, x2, a2, hR2, hle2, hk2, hl2, ha2, hs2⟩ := ihb.2 fs (off + a.w) h4 fuel cs ρ1 H1 hR1 (by omega) (fun g hg => h g (by simp [hg]));refine ⟨ρ2, H2, (x1, x2), a1 ++ a2, hR2, fun b y h => hle2 b y (hle1 b y h), hk1.trans hk2, ?_, ⟨a1, a2, rfl, Abs.keep hk2 a x1 a1 ha1, ha2⟩, hs1, hs2⟩
    have e : cs.drop off = (cs.drop off).take a.w ++ cs.drop (off + a.w) := by
     rw [← List.drop_drop];exact (List.take_append_drop a.w (cs.drop off)).symm
    rw [e];exact (hl1.mono hle2).append hl2
  refine ⟨?_, fields⟩;intro t ht fuel cs x ρ H hR h hwx;obtain ⟨n, rfl⟩ := yd h;have gF := ht;simp only [pC] at ht
  split at ht
  ·rename_i fs hu
   simp only [Bool.and_eq_true, beq_iff_eq] at ht;obtain ⟨xs, n', _, hxe, hlen, hxl, hxs⟩ := DataW.trod_struct hu h
   have := fields fs.toList 0 ht.2 n' cs ρ H hR (by rw [hlen, ht.1]; simp) (fun f hf => by
    obtain ⟨i, hi, rfl⟩ := List.mem_iff_getElem.1 hf;have := hxs i fs.toList[i] (by simp);rw [this]
    have hix : i < xs.length := by rw [hxl]; simpa using hi
    refine ⟨xs[i]'hix, br _, fun n hn => hwx n ?_⟩;rw [hxe];unfold DataW.weights;rw [hu]
    exact zF (i := i) (by rw [tA, br hi]; rfl) (by rw [tA, br hix]; rfl) hn)
   simpa using this
  ·cases ht
end
def valOf : Ty → List Value → Value
 | .pair _ _, cs => .agg cs.toArray
 | .unit, cs => .agg cs.toArray
 | _, cs => cs.headD undef
abbrev YJ : List Ty → Type
 | [] => Unit
 | t :: ts => t.I × YJ ts
def rj (H : AH) : (ts : List Ty) → YJ ts → List Value → Prop
 | [], _, vs => vs = []
 | t :: ts, x, vs => ∃ cs rest, vs = valOf t cs :: rest ∧ Abs H t x.1 cs ∧ rj H ts x.2 rest
theorem rj.keep {H H' : AH} (k : eR H H') : ∀ (ts : List Ty) (x : YJ ts) (vs : List Value), rj H ts x vs → rj H' ts x vs := by
 intro ts
 induction ts with
 | nil => intro x vs h; exact h
 | cons t ts ih =>
  intro x vs h;obtain ⟨cs, rest, e, h1, h2⟩ := h;exact ⟨cs, rest, e, Abs.keep k t _ _ h1, ih _ _ h2⟩
def wC : (ts : List Ty) → YJ ts → Prop
 | [], _ => True
 | t :: ts, x => Ap t x.1 ∧ wC ts x.2
def rz (P : Program) : List Ty → List TypeId → Bool
 | [], [] => true
 | ty :: tys, t :: ts => (pC P ty).1 t && P.readableRec t && decide (t < P.types.size) && rz P tys ts
 | _, _ => false
section
variable {Hd : Type} {enc : TypeId × Value → Hd} {P : Program} {w : World} {held : Bool}
theorem ahI {ty : Ty} {t : TypeId} (ht : (pC P ty).1 t = true) {v : Value} {d : DataW Hd} {ps : List MemPlace} {r : Reach} {b0 : Nat} (hval : Value.okWide P w r b0 t v) (h : DataW.Trod enc P w 0 (fun _ => true) held t v d ps) (hwd : wOK P t d)
 {ρ : bv} {H : AH} (hR : Rel P w w.heap.size ρ H w) : ∃ ρ' H' x avs, Rel P w w.heap.size ρ' H' w ∧ (∀ b y, ρ b = some y → ρ' b = some y) ∧ eR H H' ∧ VRel P ρ' (valOf ty avs) v ∧ Abs H' ty x avs ∧ Ap ty x := by
 obtain ⟨fuel, h⟩ := h;obtain ⟨ρ', H', x, avs, h1, h2, h3, h4, h5, h6⟩ := (agA (enc := enc) (P := P) (w := w) (held := held) ty).1 t ht fuel _ _ ρ H hR h hwd;refine ⟨ρ', H', x, avs, h1, h2, h3, ?_, h5, h6⟩;have hlen := Abs.length ty x avs h5
 have one : ∀ (hw : ty.w = 1) (hva : ∀ cs, v ≠ .agg cs), VRel P ρ' (avs.headD undef) v := by
  intro hw hva
  have hc : v.cells.toList = [v] := by
   cases v <;> first | rfl | exact absurd rfl (hva _)
  rw [hc] at h4
  match avs, hlen with
  | [a], _ => exact h4.2 0 a v rfl rfl
  | [], hl => rw [hw] at hl; cases hl
  | a :: b :: l, hl => rw [hw] at hl; simp at hl
 cases ty with
 | int k =>
  refine one rfl (fun cs e => ?_);subst e;simp only [pC] at ht
  split at ht
  ·rename_i hu
   unfold Value.okWide at hval;rw [hu] at hval;unfold Cell.okWide at hval;rw [hu] at hval;unfold Cell.ok at hval;rw [hu] at hval;exact hval
  ·cases ht
 | bool =>
  refine one rfl (fun cs e => ?_);subst e;simp only [pC] at ht
  split at ht
  ·rename_i hu
   unfold Value.okWide at hval;rw [hu] at hval;unfold Cell.okWide at hval;rw [hu] at hval;unfold Cell.ok at hval;rw [hu] at hval;exact hval
  ·cases ht
 | slice e =>
  refine one rfl (fun cs e => ?_);subst e;simp only [pC] at ht
  split at ht
  ·rename_i hu
   unfold Value.okWide at hval;rw [hu] at hval;unfold Cell.okWide at hval;rw [hu] at hval;unfold Cell.ok at hval;rw [hu] at hval;exact hval
  ·cases ht
 | unit => simp only [pC] at ht; cases ht
 | pair a b =>
  simp only [pC] at ht
  split at ht
  ·rename_i fs hu
   unfold Value.okWide at hval;rw [hu] at hval;obtain ⟨cs, rfl, _⟩ := hval;have h4 : LRel P ρ' avs cs.toList := h4;exact .agg (by simpa using h4.1) (fun i x y hx hy => h4.2 i x y (by simpa using hx) (by simpa using hy))
  ·cases ht
theorem YX : ∀ (tys : List Ty) (ts : List TypeId) (vs : List Value) (ds : List (DataW Hd)) (ps : List MemPlace), rz P tys ts = true → (∀ (j : Nat) t v, ts[j]? = some t → vs[j]? = some v → ∃ r b0, Value.okWide P w r b0 t v) →
 DataW.TrodAll enc P w 0 (fun _ => true) held ts vs ds ps → (∀ n ∈ DataW.weightsEach P ts ds, n ≤ reachBytes) → ∀ (ρ : bv) (H : AH), Rel P w w.heap.size ρ H w →
 ∃ ρ' H' x avs, Rel P w w.heap.size ρ' H' w ∧ (∀ b y, ρ b = some y → ρ' b = some y) ∧ eR H H' ∧ LRel P ρ' avs vs ∧ rj H' tys x avs ∧ wC tys x := by
 intro tys
 induction tys with
 | nil =>
  intro ts vs ds ps hc hval h hwd ρ H hR
  cases ts with
  | cons t ts => cases hc
  | nil =>
   obtain ⟨rfl, _, _⟩ := trodAll_nil h;exact ⟨ρ, H, (), [], hR, fun _ _ h => h, eR.refl H, LRel.nil, rfl, trivial⟩
 | cons ty tys ih =>
  intro ts vs ds ps hc hval h hwd ρ H hR
  cases ts with
  | nil => cases hc
  | cons t ts =>
   simp only [rz, Bool.and_eq_true] at hc;obtain ⟨⟨⟨hc1, _⟩, _⟩, hc2⟩ := hc;obtain ⟨v, vs', d, ds', p, q, rfl, rfl, rfl, hd, hrest⟩ := trodAll_cons h;obtain ⟨r, b0, hv0⟩ := hval 0 t v rfl rfl;obtain ⟨ρ1, H1, x1, a1, hR1, hle1, hk1, hv1, ha1, hs1⟩ := ahI hc1 hv0 hd (fun n hn => hwd n (by rw [DataW.weightsEach]; exact List.mem_append_left _ hn)) hR;obtain ⟨ρ2, H2, x2, a2, hR2, hle2, hk2, hl2, ha2, hs2⟩ := ih ts vs' ds' q hc2 (fun j t v h1 h2 => hval (j + 1) t v (by simpa using h1) (by simpa using h2)) hrest (fun n hn => hwd n (by rw [DataW.weightsEach]; exact List.mem_append_right _ hn)) ρ1 H1 hR1;exact ⟨ρ2, H2, (x1, x2), valOf ty a1 :: a2, hR2, fun b y h => hle2 b y (hle1 b y h), hk1.trans hk2, LRel.cons (hv1.mono hle2) hl2, ⟨a1, a2, rfl, Abs.keep hk2 ty x1 a1 ha1, ha2⟩, hs1, hs2⟩
theorem UG (hl : laidOutB P = true) {W' : World} (hb : Below w.heap.size w W') : ∀ (tys : List Ty) (ts : List TypeId) (vs : List Value) (ds : List (DataW Hd)) (ps : List MemPlace), rz P tys ts = true → (∀ x ∈ ps, x.block < w.heap.size) →
 DataW.TrodAll enc P w 0 (fun _ => true) true ts vs ds ps → DataW.TrodAll enc P W' 0 (fun b => decide (b < w.heap.size)) true ts vs ds ps := by
 intro tys
 induction tys with
 | nil =>
  intro ts vs ds ps hc hlt h
  cases ts with
  | cons t ts => cases hc
  | nil =>
   obtain ⟨rfl, rfl, rfl⟩ := trodAll_nil h;exact trodAll_mk0
 | cons ty tys ih =>
  intro ts vs ds ps hc hlt h
  cases ts with
  | nil => cases hc
  | cons t ts =>
   simp only [rz, Bool.and_eq_true, decide_eq_true_eq] at hc;obtain ⟨⟨⟨_, hc1⟩, hc3⟩, hc2⟩ := hc;obtain ⟨v, vs', d, ds', p, q, rfl, rfl, rfl, hd, hrest⟩ := trodAll_cons h;exact ⟨p, q, Below.trod hl hc1 hc3 hd hb (fun x hx => hlt x (by simp [hx])), ih ts vs' ds' q hc2 (fun x hx => hlt x (by simp [hx])) hrest, rfl⟩
theorem law_post (hm : P.follows .mixedOrders = true) (hl : laidOutB P = true) {G : List Nat} {f : Nat} {fn : Func} {s : ChangeSpec} {tys : List Ty} (hc : rz P tys fn.params.toList = true)
 {tb : TypeId} (hres : fn.resultTypes = #[tb]) (hb : P.underlying tb = some .bool) (hvars : s.vars = [])
 {args : Array Value} {ds gs : List (DataW Hd)} {before : List MemPlace} (hval : ∀ (j : Nat) t v, fn.params[j]? = some t → args[j]? = some v → ∃ r b0, Value.okWide P w r b0 t v)
 (hW : DataW.Whole enc P fn.params.toList s.vars false w args.toList ds gs before) (hspec : s.fn Hd (ds ++ gs) = { results := [.lit (.bool true)], args := ds })
 {ρ0 : bv} {H0 : AH} (hR : Rel P w w.heap.size ρ0 H0 w) (hG : GlobRel ρ0 G)
 (hwt : (DataW.weightsEach P fn.params.toList ds).all (· ≤ reachBytes) = true)
 (run : ∀ (x : YJ tys) (avs : List Value) (H : AH), eR H0 H → rj H tys x avs → wC tys x → ∃ H', aF P G f avs H = some (.bool true, H')) :
 Calls P f args w fun e w' => ∃ v, e = .returned v ∧ s.post enc P fn false true false false w args v w' := by
 have hW' := hW;obtain ⟨p, q, hA, hV, rfl, hfz, hnd⟩ := hW;rw [hvars] at hV;obtain ⟨rfl, rfl⟩ := trodVars_none hV;obtain ⟨ρ1, H1, x, avs, hR1, hle1, hk1, hl1, ha1, hs1⟩ := YX tys fn.params.toList args.toList ds p hc (fun j t v h1 h2 => hval j t v (by simpa using h1) (by simpa using h2)) hA (fun n hn => by simpa using List.all_eq_true.1 hwt n hn) ρ0 H0 hR;obtain ⟨H', hrun⟩ := run x avs H1 hk1 ha1 hs1;have hG1 : GlobRel ρ1 G := fun g hg => let ⟨sz, h⟩ := hG g hg; ⟨sz, hle1 _ _ h⟩;have hcall := ((anM (P := P) (G := G) hm).1 f avs H1 _ H' hrun).2 w w.heap.size ρ1 w args.toList hR1 hG1 hl1;rw [show args.toList.toArray = args from by simp] at hcall;refine hcall.mono fun e w' ⟨v', ρ', he, hv, hext, hR'⟩ => ?_
 have hv : v' = .bool true := by
  cases hv with
  | lit h => rfl
 subst hv;subst he
 have hlt : ∀ y ∈ p, y.block < w.heap.size := fun y hy => by
  have := hW'.lt y (by simp [hy])
  simpa using this
 refine ⟨_, rfl, ds, [], p ++ [], [], p, [], hW', ?_, ?_, ?_, ?_, fun h => by cases h⟩
 ·rw [hspec, hres]
  exact ⟨[], [], shut_bool hb true, trodAll_mk0, rfl⟩
 ·rw [hspec]
  exact UG hl hR'.below tys _ _ _ _ hc hlt hA
 ·rw [hvars, hspec]
  rfl
 ·exact hR'.below.frame _
end
theorem rel_none (P : Program) (w : World) : Rel P w w.heap.size (fun _ => none) ⟨[]⟩ w where
 base := bj _
 below := Below.refl _ _
 dom := fun b x h => by cases h
 blk := fun b c d sz h => by cases h
 obj := fun b c d sz o h => by cases h
 own := fun b c d sz o h => by cases h
 ro := fun b c d sz cs h => by cases h
 inj := fun b b' c d d' sz sz' o o' h => by cases h
end Go.Proofs.YtghoamdlcjdfjaaGreatDoor.Gst
namespace Go.Proofs.YtghoamdlcjdfjaaGreatDoor.Gst
open Go Go.RowKit
set_option maxRecDepth 100000
set_option linter.unusedVariables false
set_option maxHeartbeats 1000000
abbrev F0 : Nat := 1684996666696914987166688442938726917102321526408785780068975640575
abbrev apW : Nat := 12259964326927110866866776217202473468949912977468788031
abbrev UI : Nat := 65185151242703554760590262029100101153646988597309960020356494379340201592426774597868716015
abbrev apX : Nat := 12554203470773361527671578846415332832204710888928068895681
abbrev Mk : Nat := 1684996666696914987166688442938726917102321526408785780068975493118
abbrev Ml : Nat := 1684996666696914987166688442938726917102321526408785780068975631358
abbrev apY : Nat := 12554203470773361527671578846415332832204710888928064803837
abbrev apZ : Nat := 12259964326927110866866776217202473468949912977468288831
abbrev ap0 : Nat := 12259964326927110866866776217202473468949912977468591423
abbrev Y4 : Nat := 1684996666696914987166688442938726917102321526408785780068967514080
abbrev Jf : Nat := 1684996666696914987166688442938726917102321526408785780068975591402
abbrev Jg : Nat := 1684996666696914987166688442938726917102321526408785780068975637484
abbrev apO : Nat := 12554203470773361527671578846415332832204710888928069022719
abbrev apP : Nat := 12259964326927110866866776217202473468949912977468817343
abbrev Qh : Nat := 1684996666696914987166688442938726917102321526408785780068975640544
abbrev Qi : Nat := 1684996666696914987166688442938726917102321526408785780068973805536
abbrev Qj : Nat := 1684996666696914987166688442938726917102321526408785780068975624186
abbrev Qk : Nat := 1684996666696914987166688442938726917102321526408785780068975639548
abbrev um : Nat := 1237940039285380274899122808
abbrev apQ : Nat := 12554203470773361527671578846415332832204710888928068998141
abbrev apR : Nat := 12554203470773361527671578846415332832204710888928068764609
abbrev apS : Nat := 12259964326927110866866776217202473468949912977468813119
abbrev sE : Nat := 590295810358705651256
abbrev sF : Nat := 590295810358705650744
abbrev AB : Nat := 1237940039285380274899123320
abbrev sG : Nat := 9223372036854775352
abbrev AC : Nat := 309485009821345068724780233
abbrev akI : Nat := 65185151242703554760590262029100101153646988597309960020356494379340201592426774597868715788
abbrev sH : Nat := 9007199254740720
abbrev yi : Nat := 9223372036854775608
abbrev AF : Nat := 590295810358705649720
abbrev Ql : Nat := 664613997892457936451903530140172271
abbrev Jh : Nat := 1237940039285380274899123832
abbrev Qm : Nat := 72057594037927887
abbrev apT : Nat := 72057594037927820
abbrev AG : Nat := 9223372036854775736
abbrev Qn : Nat := 40564819207303340847894502572015
abbrev AI : Nat := 1125899906842566
abbrev AJ : Nat := 9007199254740208
abbrev Qo : Nat := 309485009821345068724780751
abbrev yj : Nat := 4398046511091
abbrev AK : Nat := 4397241204723
abbrev Ji : Nat := 288230376151708650
abbrev Qp : Nat := 590295810358705651519
abbrev AL : Nat := 274877905904
abbrev Qq : Nat := 36893488147419103219
abbrev Jj : Nat := 1125899906842598
abbrev Qr : Nat := 288230376151710698
abbrev AM : Nat := 1073627115
abbrev AN : Nat := 1073692589
abbrev AO : Nat := 1073741708
abbrev Jk : Nat := 4398046511090
abbrev Qs : Nat := 2251799813685196
abbrev Y3 : Nat := 9223372036854775807
noncomputable abbrev PP : Program := Tryz.prog
def GG : List Nat := [0]
noncomputable abbrev FF : bg := aF PP GG
noncomputable abbrev CQ (c : Code) (kn : KK) (kx : KX) (kr : KK) : KK := CK PP GG FF c kn kx kr
noncomputable abbrev sC (c : Code) (kx : KX) (kr : KK) : KK := CL PP GG FF c kx kr
def iL : Nat := 9
def tG : Nat := 10
def mS : Nat := 12
def tF : Nat := 16
def bn : Nat := 18
def mT : Nat := 19
def ie : Nat := 20
def gq : Nat := 21
def dD : Nat := 22
def di : Nat := 23
def jB : Nat := 24
def qA : Nat := 25
def qC : Nat := 26
def SV : Nat := 30
def SU : Nat := 33
def kJ : Nat := 34
def hZ : Nat := 37
def f7 : Nat := 40
def adC : Nat := 41
def fD : Nat := 42
def km : Nat := 43
def qB : Nat := 44
def lP : Nat := 45
def lL : Nat := 46
def eI : Nat := 49
def cq : Nat := 56
def kK : Nat := 57
def eJ : Nat := 58
def iM : Nat := 59
def ju : Nat := 60
def xn : Nat := 61
def mX : Nat := 62
def xm : Nat := 63
def dE : Nat := 64
def tH : Nat := 65
def gH : Nat := 66
def zg : Nat := 72
def be : Nat := 73
def cr : Nat := 75
def adH : Nat := 76
def adJ : Nat := 77
def cU : Nat := 78
def mt : Nat := 79
def bx : Nat := 80
def mR : Nat := 81
def xo : Nat := 82
def qz : Nat := 83
def qG : Nat := 84
def tI : Nat := 85
def tD : Nat := 86
def lO : Nat := 87
def lQ : Nat := 88
def mV : Nat := 89
def mU : Nat := 90
def hF : Nat := 91
def jx : Nat := 92
def iQ : Nat := 93
def kj : Nat := 94
def qy : Nat := 98
def mQ : Nat := 99
def cM : Nat := 104
def d6 : Nat := 105
def gn : Nat := 106
def iP : Nat := 107
def lK : Nat := 108
def fB : Nat := 109
def cC : Nat := 110
def SW : Nat := 111
def jy : Nat := 112
def ia : Nat := 113
def kc : Nat := 114
def gR : Nat := 115
def bK : Nat := 116
def gP : Nat := 117
def fO : Nat := 118
def gO : Nat := 119
def jA : Nat := 120
def lR : Nat := 121
def d9 : Nat := 122
def gQ : Nat := 123
def iO : Nat := 124
def ak2 : Nat := 125
def adF : Nat := 126
def bX : Nat := 130
def kf : Nat := 132
def iN : Nat := 145
def adK : Nat := 146
def jo : Nat := 147
def adG : Nat := 148
def d8 : Nat := 149
def qD : Nat := 150
def tJ : Nat := 151
def vo : Nat := 152
def vn : Nat := 153
def adD : Nat := 154
def e9 : Nat := 155
def tK : Nat := 156
def bN : Nat := 157
def mW : Nat := 158
def dv : Nat := 159
def fc : Nat := 160
def iu : Nat := 167
def jr : Nat := 168
def adE : Nat := 169
def jz : Nat := 170
def fP : Nat := 171
def kg : Nat := 172
def dj : Nat := 173
def dw : Nat := 174
def jM : Nat := 175
def gN : Nat := 176
def gM : Nat := 177
def ka : Nat := 178
def jv : Nat := 179
def jw : Nat := 180
def gG : Nat := 181
def CA : Nat := 182
def jC : Nat := 183
def oL : Nat := 185
def SX : Nat := 187
def E9 : Nat := 188
def iJ : Nat := 189
def tL : Nat := 190
def qF : Nat := 191
def qE : Nat := 200
def kY : Nat := 207
def kV : Nat := 208
def vl : Nat := 209
def bk : Nat := 210
def f3 : Nat := 211
def cH : Nat := 212
def lN : Nat := 213
def d7 : Nat := 214
def f8 : Nat := 215
def qI : Nat := 216
def dF : Nat := 217
def lM : Nat := 218
def adI : Nat := 219
def qH : Nat := 220
def tE : Nat := 221
def ic : Nat := 237
def hM : Nat := 242
def gr : Nat := 243
def bM : Nat := 244
def dB : Nat := 245
def iR : Nat := 246
def KE : Nat := 247
def oM : Nat := 248
def jN : Nat := 277
def kW : Nat := 282
def dC : Nat := 283
def fQ : Nat := 302
def f5 : Nat := 305
def f4 : Nat := 306
def nV : Nat := 307
def jq : Nat := 308
def jp : Nat := 309
def fA : Nat := 316
def d5 : Nat := 318
def fC : Nat := 319
def nU : Nat := 320
def gm : Nat := 321
def la : Nat := 322
def d4 : Nat := 324
def mv : Nat := 325
def vm : Nat := 326
def k7 : Nat := 327
def kT : Nat := 328
def kU : Nat := 329
def ff : Nat := 330
def ko : Nat := 331
def f6 : Nat := 332
def fy : Nat := 333
def jt : Nat := 334
def cX : Nat := 335
def iK : Nat := 336
def kX : Nat := 337
def g8 : Nat := 338
def kZ : Nat := 339
def g9 : Nat := 340
def nT : Nat := 341
section
variable (x0 x1 x2 x3 x4 x5 x8 x9 x15 x35 x48 x51 : Value) (H : AH)
noncomputable def sK (p : List Nat) : Code := Code.sub (bP Tryz.f10) p
noncomputable def pY : KK := e6 PP (Tryz.f10).results.toList
noncomputable def ZB : KK := CQ (sK [1, 1, 1, 1, 1]) pY bC pY
noncomputable def yx : OV := ZB (ls [u, x1, x2, u, x4, x5, u, u, x8] 79) H
noncomputable def MR : KK := CQ (sK [1, 1, 1, 1, 1, 1]) pY bC pY
noncomputable def Zz : KK := dn Qo MR
noncomputable def yy : OV := MR (ls [u, u, u, u, x4, x5, u, u, x8] 79) H
noncomputable def ZD : KK := CQ (sK [1, 1, 1, 1, 1, 0, 1]) Zz bC pY
noncomputable def yz : OV := ZD (ls [u, x1, x2, u, x4, x5, u, u, x8, x9] 78) H
noncomputable def MU : KX := BX 0 Zz bC
noncomputable def Gi : KX := mJ Qo MU
noncomputable def MS : KK := sC (sK [1, 1, 1, 1, 1, 0, 1, 4, 5]) Gi pY
noncomputable def ZA : KK := dn AC MS
noncomputable def mp : OV := MS (ls [u, x1, x2, u, x4, x5, u, u, x8, x9] 78) H
noncomputable def ZF : KK := CQ (sK [1, 1, 1, 1, 1, 0, 1, 4, 5, 1]) ZA Gi pY
noncomputable def yA : OV := ZF (ls [u, x1, x2, u, x4, x5, u, u, x8, x9] 78) H
noncomputable def MT : KK := CQ (sK [1, 1, 1, 1, 1, 0, 1, 4, 5, 1, 1]) ZA Gi pY
noncomputable def al0 : KK := dn AC MT
noncomputable def qv : OV := MT (ls [u, x1, x2, u, x4, x5, u, u, x8, x9] 78) H
noncomputable def ahX : KX := BX 1 al0 Gi
noncomputable def sO : OV := MU 0 (ls [u, u, u, u, x4, x5, u, u, x8] 79) H
theorem mg : ap 309485009821345068724781007 pY := rf
theorem ZC : ap 309485009821345068724780745 ZB := rc mg aA mg
theorem Be : ap Qo MR := rc mg aA mg
theorem ZE : ap AC ZD := rc (cd Be) aA mg
theorem pZ : ∀ i, ap Qo (MU i) := rb (cd Be) aA
theorem uB : ap AC MS := rl (cx pZ) mg
theorem ZG : ap AC ZF := rc (cd uB) (cx pZ) mg
theorem JF : ap AC MT := rc (cd uB) (cx pZ) mg
theorem U7 : ∀ i, ap AC (ahX i) := rb (cd JF) (cx pZ)
theorem Cj : yy x4 x5 x8 H =
 (aC 2 x8 H).bind fun b =>
 (dc 2 x4 b H).bind fun a =>
 (aC 2 x4 a).bind fun c => some (Value.tuple #[c, (vb true)], a) :=
 (by kernel_rfl)
theorem Cn : qv x1 x2 x4 x5 x8 x9 H =
 (aj .other .add x9 (vi 1)).bind fun a =>
 mp x1 x2 x4 x5 x8 a H :=
 (by kernel_rfl)
theorem Cm : yA x1 x2 x4 x5 x8 x9 H =
 ld [.f 0] x2 H fun d =>
 (aj .other .quo x9 d).bind fun e =>
 ld [.f 1] x2 H fun g =>
 (aj .other .lss e g).bind fun a =>
 (gB a true (aC 2 x8 H)).bind fun i =>
 (gV a true x9).bind fun j =>
 (gV a true x9).bind fun k =>
 (gB a true (aj .other .add (vi 1) k)).bind fun l =>
 (gV a true x9).bind fun m =>
 (gB a true (aj .other .rem m (vi 2))).bind fun n =>
 (gB a true (aj .other .add (vi 2) n)).bind fun o =>
 (gE a true H (FF lL [i, j, l, o] H)).bind fun b =>
 (gB a true (pM .not b.1)).bind fun p =>
 (aM a p (vb false)).bind fun q =>
 aw q
 (iz [(0, 1), (1, 1)] [(.pointer none), (.pointer none)] [] fun s =>
 (dc 2 x4 s b.2).bind fun c =>
 (aC 2 x4 c).bind fun t => some (Value.tuple #[t, (vb false)], c))
 (qv x1 x2 x4 x5 x8 x9 b.2) :=
 (pt rfl 0 JF (bt rfl (sK [1, 1, 1, 1, 1, 0, 1, 4, 5, 1, 0, 4]) 1 U7 (by kernel_rfl)))
theorem w4 : sO x4 x5 x8 H = yy x4 x5 x8 H :=
 (by kernel_rfl)
theorem qu : mp x1 x2 x4 x5 x8 x9 H =
 (aj .other .lss x9 x1).bind fun a =>
 aw a
 (yA x1 x2 x4 x5 x8 x9 H)
 (sO x4 x5 x8 H) :=
 pK rfl uB (pt rfl 0 ZG (by kernel_rfl))
theorem Ck : yz x1 x2 x4 x5 x8 x9 H =
 mp x1 x2 x4 x5 x8 x9 H :=
 (bt rfl (sK [1, 1, 1, 1, 1, 0, 1, 4]) 0 pZ (li rfl (sK [1, 1, 1, 1, 1, 0, 1, 4, 5]) uB (by kernel_rfl)))
theorem Ci : yx x1 x2 x4 x5 x8 H =
 yz x1 x2 x4 x5 x8 (vi 0) H :=
 (pt rfl 0 Be (pt rfl 0 ZE (by kernel_rfl)))
noncomputable def acU : OV := aT PP GG FF (sK []) (ls [x0, x1] 86) H pY bC pY
theorem Ks {r : Value × AH} (h : (
 aW (Value.cells x0).toList H fun c y =>
 aW [(.pointer none), (.pointer none)] y fun k m =>
 (aC 5 c m).bind fun z =>
 (FF mS [z] m).bind fun o =>
 (dc 5 c o.1 o.2).bind fun p =>
 (aC 5 c p).bind fun A =>
 (FF qB [A] p).bind fun a =>
 (ak a.1 0).bind fun b =>
 (ak a.1 1).bind fun B =>
 (aj .other .neq B (vi 0)).bind fun l =>
 (gV l false b).bind fun C =>
 (gB l false (aj .ptr .eql C (.pointer none))).bind fun D =>
 (aM l (vb true) D).bind fun d =>
 (gV d false b).bind fun E =>
 fG d false  [.n, .f 0] E a.2 fun G =>
 (gB d false (aj .ptr .eql G (.pointer none))).bind fun I =>
 (aM d (vb true) I).bind fun e =>
 (gV e false b).bind fun J =>
 fG e false  [.n, .f 1] J a.2 fun K =>
 (gB e false (aj .ptr .eql K (.pointer none))).bind fun L =>
 (aM e (vb true) L).bind fun g =>
 (gV g false b).bind fun M =>
 fG g false  [.n, .f 2] M a.2 fun N =>
 (gB g false (aj .ptr .eql N (.pointer none))).bind fun O =>
 (aM g (vb true) O).bind fun i =>
 (gV i false b).bind fun P =>
 fG i false  [.n, .f 3] P a.2 fun Q =>
 (gB i false (aj .ptr .eql Q (.pointer none))).bind fun R =>
 (aM i (vb true) R).bind fun j =>
 (gV j false b).bind fun S =>
 fG j false  [.n, .f 4] S a.2 fun T =>
 (gB j false (aj .ptr .eql T (.pointer none))).bind fun U =>
 (aM j (vb true) U).bind fun V =>
 aw V
 (iz [(0, 1), (1, 1)] [(.pointer none), (.pointer none)] [] fun W =>
 (dc 2 k W a.2).bind fun q =>
 (aC 2 k q).bind fun X => some (Value.tuple #[X, (vb false)], q))
 ((aC 5 c a.2).bind fun Y =>
 (FF lP [Y] a.2).bind fun s =>
 iz [(0, 1), (1, 1)] [(.pointer none), (.pointer none)] [(0, b), (1, s.1)] fun Z =>
 aW [(.pointer none), (.pointer none)] s.2 fun w a0 =>
 (dc 2 w Z a0).bind fun a1 =>
 yx x1 c k (vb false) w a1)) = some r) : FF tG [x0, x1] H = some r :=
 fo (t := acU x0 x1 H) Tryz.func10 (by kernel_rfl) (Eq.trans (pt rfl 4 ZC (by kernel_rfl)) h)
noncomputable def ZH (p : List Nat) : Code := Code.sub (bP Tryz.f12) p
noncomputable def Bh : KK := e6 PP (Tryz.f12).results.toList
noncomputable def ZI : KK := CQ (ZH [1, 1]) Bh bC Bh
noncomputable def qN : OV := ZI (ls [u, x1, x2, x3] 29) H
noncomputable def ZK : KK := CQ (ZH [1, 1, 1]) Bh bC Bh
noncomputable def iW : OV := ZK (ls [u, x1, x2, x3] 29) H
theorem zM : ap 8589934587 Bh := rf
theorem ZJ : ap 8589934577 ZI := rc zM aA zM
theorem ZL : ap 8589934577 ZK := rc zM aA zM
theorem vE : iW x1 x2 x3 H =
 ld [.f 0] x1 H fun k =>
 (FF bn [k, (vi 4)] H).bind fun b =>
 (aj .other .add (vi 1) b.1).bind fun l =>
 ad [.f 1] x1 fun g =>
 (au g b.2).bind fun m =>
 bJ (au g H) (au g b.2) <|
 (FF bn [m, (vi 4)] b.2).bind fun c =>
 (aj .other .add (vi 1) c.1).bind fun n =>
 ad [.f 2] x1 fun e =>
 (au e c.2).bind fun o =>
 bJ (au e H) (au e c.2) <|
 bJ (au e b.2) (au e c.2) <|
 (FF bn [o, (vi 6)] c.2).bind fun d =>
 (aj .other .add (vi 1) d.1).bind fun p =>
 ad [.f 3] x1 fun a =>
 (au a d.2).bind fun q =>
 bJ (au a H) (au a d.2) <|
 bJ (au a b.2) (au a d.2) <|
 bJ (au a c.2) (au a d.2) <|
 (FF bn [q, (vi 12)] d.2).bind fun i =>
 iz [(0, 1), (1, 1), (2, 1), (3, 1), (4, 1)] [(vi 0), (vi 0), (vi 0), (vi 0), (vw 0)] [(0, l), (1, n), (2, p), (3, i.1), (4, x3)] fun s =>
 (dc 5 x2 s i.2).bind fun j =>
 (aC 5 x2 j).bind fun t => some (t, j) :=
 (by kernel_rfl)
theorem vD : qN x1 x2 x3 H =
 ld [.f 4] x1 H fun a =>
 (aj .other .rem a (vw 4)).bind fun b =>
 (aj .other .eql b (vw 3)).bind fun c =>
 aw c
 (ld [.f 4] x1 H fun d =>
 (aj .other .rem d (vw 4611686018427387904)).bind fun e =>
 (aj .other .add (vw 1) e).bind fun g =>
 iW x1 x2 g H)
 (iW x1 x2 x3 H) :=
 (pt rfl 0 ZL (by kernel_rfl))
noncomputable def KQ : OV := aT PP GG FF (ZH []) (ls [x0] 32) H Bh bC Bh
theorem CE {r : Value × AH} (h : (
 aW (Value.cells x0).toList H fun a c =>
 aW [(vi 0), (vi 0), (vi 0), (vi 0), (vw 0)] c fun d b =>
 ld [.f 4] a b fun e =>
 (aj .other .rem e (vw 5000)).bind fun g =>
 (aj .other .add (vw 1) g).bind fun i =>
 qN a d i b) = some r) : FF mS [x0] H = some r :=
 fo (t := KQ x0 H) Tryz.func12 (by kernel_rfl) (Eq.trans (pt rfl 1 ZJ (by kernel_rfl)) h)
theorem Ko {r : Value × AH} (h : (
 aW (Value.cells x0).toList H fun b j =>
 aW (Value.cells x1).toList j fun c a =>
 ld [.f 0] b a fun k =>
 ld [.f 0] c a fun l =>
 (aj .other .eql k l).bind fun d =>
 fG d true  [.f 2] b a fun m =>
 fG d true  [.f 2] c a fun n =>
 (gB d true (aj .other .eql m n)).bind fun o =>
 (aM d o (vb false)).bind fun e =>
 fG e true  [.f 3] b a fun p =>
 fG e true  [.f 3] c a fun q =>
 (gB e true (aj .other .eql p q)).bind fun s =>
 (aM e s (vb false)).bind fun g =>
 fG g true  [.f 1] b a fun t =>
 fG g true  [.f 1] c a fun w =>
 (gE g true a (FF eI [t, w] a)).bind fun i =>
 (aM g i.1 (vb false)).bind fun y =>
 some (y, i.2)) = some r) : FF tF [x0, x1] H = some r :=
 fo Tryz.func16 (by kernel_rfl) h
theorem KR {r : Value × AH} (h : (
 (bI (some .u64) x0).bind fun a =>
 (bI (some .u64) x1).bind fun b =>
 (aj .other .rem a b).bind fun c =>
 (bI (some .i64) c).bind fun d =>
 some (d, H)) = some r) : FF bn [x0, x1] H = some r :=
 fo Tryz.func18 (by kernel_rfl) h
theorem CF {r : Value × AH} (h : (
 (aj .other .lss x0 (vw 1)).bind fun a =>
 (gV a false x0).bind fun d =>
 (gB a false (aj .other .gtr d (vw 4611686018427387904))).bind fun e =>
 (aM a (vb true) e).bind fun b =>
 (gV b false x1).bind fun f =>
 (gB b false (aj .other .lss f (vi 1))).bind fun g =>
 (aM b (vb true) g).bind fun c =>
 (gV c false x1).bind fun i =>
 (gB c false (aj .other .gtr i (vi 65536))).bind fun j =>
 (aM c (vb true) j).bind fun k =>
 aw k
 (some (Value.tuple #[(vw 0), (vb false)], H))
 ((bI (some .u64) x1).bind fun l =>
 (aj .other .quo x0 l).bind fun m =>
 (ig [m, (vw 1)]).bind fun n =>
 some (Value.tuple #[n, (vb true)], H))) = some r) : FF mT [x0, x1] H = some r :=
 fo Tryz.func19 (by kernel_rfl) h
theorem sB {r : Value × AH} (h : (
 ad [.n, .f 0] x0 fun b =>
 (au b H).bind fun d =>
 (FF kK [x2, x3] H).bind fun c =>
 bJ (au b c.2) (au b H) <|
 (FF cq [d, x1, c.1] c.2).bind fun a =>
 (aj .other .eql a.1 (vw 0)).bind fun e =>
 aw e
 (some (Value.tuple #[(vi 0), (vi 0), (vb false)], a.2))
 ((aj .other .shr a.1 (vw 32)).bind fun g =>
 (bI (some .i64) g).bind fun i =>
 (aj .other .sub i (vi 1)).bind fun j =>
 (aj .other .and a.1 (vw 4294967295)).bind fun k =>
 (bI (some .i64) k).bind fun l =>
 some (Value.tuple #[j, l, (vb true)], a.2))) = some r) : FF ie [x0, x1, x2, x3] H = some r :=
 fo Tryz.func20 (by kernel_rfl) h
theorem q7 {r : Value × AH} (h : (
 ld [.n, .f 1] x0 H fun a =>
 (aj .other .rem x1 a).bind fun b =>
 ld [.n, .f 1] x0 H fun c =>
 (aj .other .add b c).bind fun d =>
 ld [.n, .f 1] x0 H fun e =>
 (aj .other .rem d e).bind fun g =>
 some (g, H)) = some r) : FF gq [x0, x1] H = some r :=
 fo Tryz.func21 (by kernel_rfl) h
theorem lU {r : Value × AH} (h : (
 aW [(vi 0), (vi 0), (vw 0)] H fun a g =>
 (FF eJ [x0, x2] g).bind fun b =>
 (pM .not b.1).bind fun j =>
 aw j
 (iz [(0, 1), (1, 1), (2, 1)] [(vi 0), (vi 0), (vw 0)] [] fun k =>
 (dc 3 a k b.2).bind fun d =>
 (aC 3 a d).bind fun l => some (l, d))
 (ld [.n, .f 0] x0 b.2 fun m =>
 iz [(0, 1), (1, 1), (2, 1)] [(vi 0), (vi 0), (vi 0)] [(0, (vi 13)), (1, x2)] fun o =>
 (FF iM [m, x1, o] b.2).bind fun c =>
 ld [.n, .f 10] x0 c.2 fun p =>
 ldN 3 [.i 4 x2, .f 0] p c.2 fun q =>
 (dc 3 a q c.2).bind fun e =>
 (aC 3 a e).bind fun s => some (s, e))) = some r) : FF dD [x0, x1, x2] H = some r :=
 fo Tryz.func22 (by kernel_rfl) h
theorem su {r : Value × AH} (h : (
 (FF eJ [x0, x1] H).bind fun a =>
 (pM .not a.1).bind fun b =>
 aw b
 (some ((.pointer none), a.2))
 (ld [.n, .f 10] x0 a.2 fun c =>
 ld [.i 4 x1, .f 3] c a.2 fun d =>
 some (d, a.2))) = some r) : FF di [x0, x1] H = some r :=
 fo Tryz.func23 (by kernel_rfl) h
theorem vW {r : Value × AH} (h : (
 ld [.n, .f 2] x0 H fun a =>
 ep a fun b =>
 some (b, H)) = some r) : FF jB [x0] H = some r :=
 fo Tryz.func24 (by kernel_rfl) h
noncomputable def o9 (p : List Nat) : Code := Code.sub (bP Tryz.f26) p
noncomputable def qf : KK := e6 PP (Tryz.f26).results.toList
noncomputable def Z6 : KK := CQ (o9 [1, 1, 1]) qf bC qf
noncomputable def vA : OV := Z6 (ls [u, x1, x2, x3] 61) H
noncomputable def Ns : KK := CQ (o9 [1, 1, 1, 1]) qf bC qf
noncomputable def BZ : KK := dn Qq Ns
noncomputable def cK : OV := Ns (ls [u, u, x2, x3] 61) H
noncomputable def Z8 : KK := CQ (o9 [1, 1, 1, 0, 1]) BZ bC qf
noncomputable def vB : OV := Z8 (ls [u, x1, x2, x3, u, u, u, u, u, u, u, u, u, u, u, x15] 49) H
noncomputable def aaC : KX := BX 0 BZ bC
noncomputable def Nt : KX := mJ Qq aaC
noncomputable def aaA : KK := CQ (o9 [1, 1, 1, 0, 1, 4, 1]) BZ Nt qf
noncomputable def vC : OV := aaA (ls [u, x1, x2, x3, u, u, u, u, u, u, u, u, u, u, u, x15, u, u, u, u, u, u, u, u, u, u, u, u, u, u, u, u, u, u, u, x35] 29) H
noncomputable def RY : KK := CQ (o9 [1, 1, 1, 0, 1, 4, 1, 3, 1]) BZ Nt qf
noncomputable def sZ : OV := RY (ls [u, x1, x2, x3, u, u, u, u, u, u, u, u, u, u, u, x15, u, u, u, u, u, u, u, u, u, u, u, u, u, u, u, u, u, u, u, u, u, u, u, u, u, u, u, u, u, u, u, u, x48] 16) H
noncomputable def RZ : KK := CQ (o9 [1, 1, 1, 0, 1, 4, 1, 3, 1, 3, 1]) BZ Nt qf
noncomputable def jO : OV := RZ (ls [u, x1, x2, x3, u, u, u, u, u, u, u, u, u, u, u, x15, u, u, u, u, u, u, u, u, u, u, u, u, u, u, u, u, u, u, u, u, u, u, u, u, u, u, u, u, u, u, u, u, u, u, u, x51] 13) H
theorem mj : ap 36893488147419103227 qf := rf
theorem Z7 : ap 36893488147419103217 Z6 := rc mj aA mj
theorem nB : ap Qq Ns := rc mj aA mj
theorem Z9 : ap 36893488147419070449 Z8 := rc (cd nB) aA mj
theorem uM : ∀ i, ap Qq (aaC i) := rb (cd nB) aA
theorem aaB : ap 36893488113059332081 aaA := rc (cd nB) (cx uM) mj
theorem V5 : ap 36893206672442359793 RY := rc (cd nB) (cx uM) mj
theorem V6 : ap 36891236347605385201 RZ := rc (cd nB) (cx uM) mj
theorem zl : cK x2 x3 H =
 (aC 4 x3 H).bind fun b =>
 (dc 4 x2 b H).bind fun a =>
 (aC 4 x2 a).bind fun c => some (c, a) :=
 (by kernel_rfl)
theorem xu : jO x1 x2 x3 x15 x51 H =
 aw x51
 (iz [(0, 1), (1, 1), (2, 1), (3, 1)] [(vi 0), (vi 0), (vi 0), (vi 0)] [(0, (vi 4))] fun j =>
 (dc 4 x3 j H).bind fun k =>
 cK x2 x3 k)
 ((aj .other .eql x15 (vi 8)).bind fun l =>
 aw l
 (ld [.f 2] x1 H fun m =>
 (FF bn [m, (vi 6)] H).bind fun d =>
 iz [(0, 1), (1, 1), (2, 1), (3, 1)] [(vi 0), (vi 0), (vi 0), (vi 0)] [(0, (vi 5)), (2, d.1)] fun n =>
 (dc 4 x3 n d.2).bind fun o =>
 cK x2 x3 o)
 ((aj .other .eql x15 (vi 9)).bind fun p =>
 aw p
 (iz [(0, 1), (1, 1), (2, 1), (3, 1)] [(vi 0), (vi 0), (vi 0), (vi 0)] [(0, (vi 6))] fun q =>
 (dc 4 x3 q H).bind fun s =>
 cK x2 x3 s)
 (ld [.f 2] x1 H fun t =>
 (FF bn [t, (vi 9)] H).bind fun a =>
 (aj .other .add (vi 1) a.1).bind fun w =>
 ad [.f 3] x1 fun c =>
 (au c a.2).bind fun y =>
 bJ (au c H) (au c a.2) <|
 (FF bn [y, (vi 1000)] a.2).bind fun e =>
 st 1 [.f 0] x3 (vi 3) e.2 fun z =>
 st 1 [.f 2] x3 w z fun A =>
 st 1 [.f 3] x3 e.1 A fun g =>
 ld [.f 2] x1 g fun B =>
 (FF bn [B, (vi 13)] g).bind fun b =>
 (aj .other .eql b.1 (vi 12)).bind fun C =>
 aw C
 (ld [.f 2] x1 b.2 fun D =>
 (FF bn [D, (vi 65536)] b.2).bind fun i =>
 (aj .other .add (vi 1) i.1).bind fun E =>
 st 1 [.f 2] x3 E i.2 fun G =>
 cK x2 x3 G)
 (cK x2 x3 b.2)))) :=
 (by kernel_rfl)
theorem xt : sZ x1 x2 x3 x15 x48 H =
 aw x48
 (st 1 [.f 0] x3 (vi 2) H fun b =>
 cK x2 x3 b)
 ((aj .other .eql x15 (vi 6)).bind fun a =>
 aw a
 (jO x1 x2 x3 x15 a H)
 ((aj .other .eql x15 (vi 7)).bind fun c =>
 jO x1 x2 x3 x15 c H)) :=
 (ct rfl (o9 [1, 1, 1, 0, 1, 4, 1, 3, 1, 2]) (o9 [1, 1, 1, 0, 1, 4, 1, 3, 1, 3]) (.tmp 48) (by kernel_rfl) (pt rfl 0 V6 (by kernel_rfl)))
theorem zn : vC x1 x2 x3 x15 x35 H =
 aw x35
 (ld [.f 2] x1 H fun d =>
 (FF bn [d, (vi 5)] H).bind fun a =>
 (aj .other .add (vi 1) a.1).bind fun e =>
 ad [.f 3] x1 fun b =>
 (au b a.2).bind fun g =>
 bJ (au b H) (au b a.2) <|
 (FF bn [g, (vi 3)] a.2).bind fun c =>
 (aj .other .add (vi 1) c.1).bind fun i =>
 st 1 [.f 0] x3 (vi 1) c.2 fun j =>
 st 1 [.f 2] x3 e j fun k =>
 st 1 [.f 3] x3 i k fun l =>
 cK x2 x3 l)
 ((aj .other .eql x15 (vi 1)).bind fun m =>
 sZ x1 x2 x3 x15 m H) :=
 (ct rfl (o9 [1, 1, 1, 0, 1, 4, 1, 2]) (o9 [1, 1, 1, 0, 1, 4, 1, 3]) (.tmp 35) (by kernel_rfl) (pt rfl 0 V5 (by kernel_rfl)))
theorem zm : vB x1 x2 x3 x15 H =
 (aj .other .eql x15 (vi 0)).bind fun a =>
 vC x1 x2 x3 x15 a H :=
 (bt rfl (o9 [1, 1, 1, 0, 1, 4]) 0 uM (pt rfl 0 aaB (by kernel_rfl)))
theorem zk : vA x1 x2 x3 H =
 ld [.f 0] x1 H fun b =>
 (FF bn [b, (vi 10)] H).bind fun a =>
 vB x1 x2 x3 a.1 a.2 :=
 (pt rfl 0 nB (pt rfl 0 Z9 (by kernel_rfl)))
noncomputable def Xe : OV := aT PP GG FF (o9 []) (ls [x0] 64) H qf bC qf
theorem Ic {r : Value × AH} (h : (
 aW (Value.cells x0).toList H fun b j =>
 aW [(vi 0), (vi 0), (vi 0), (vi 0)] j fun c d =>
 ld [.f 1] b d fun k =>
 (FF bn [k, (vi 23)] d).bind fun a =>
 (aj .other .eql a.1 (vi 22)).bind fun l =>
 aw l
 ((aC 4 b a.2).bind fun m =>
 (dc 4 c m a.2).bind fun e =>
 (aC 4 c e).bind fun n => some (n, e))
 (ld [.f 1] b a.2 fun o =>
 (FF bn [o, (vi 5)] a.2).bind fun g =>
 iz [(0, 1), (1, 1), (2, 1), (3, 1)] [(vi 0), (vi 0), (vi 0), (vi 0)] [(1, g.1)] fun p =>
 aW [(vi 0), (vi 0), (vi 0), (vi 0)] g.2 fun i q =>
 (dc 4 i p q).bind fun s =>
 vA b c i s)) = some r) : FF qC [x0] H = some r :=
 fo (t := Xe x0 H) Tryz.func26 (by kernel_rfl) (Eq.trans (pt rfl 2 Z7 (by kernel_rfl)) h)
end
section
variable (x0 x1 x2 x3 x4 x6 x7 x8 x9 x10 x14 x15 x16 : Value) (H : AH)
noncomputable def fu (p : List Nat) : Code := Code.sub (bP Tryz.f30) p
noncomputable def iD : KK := e6 PP (Tryz.f30).results.toList
noncomputable def aaF : KK := CQ (fu [1, 1]) iD bC iD
noncomputable def adX : OV := aaF (ls [x0, x1, x2, u, u, u, x6, x7] 61) H
noncomputable def Nv : KK := CQ (fu [1, 1, 1]) iD bC iD
noncomputable def aaD : KK := dn Qp Nv
noncomputable def adY : OV := Nv (ls [u, u, u, u, u, u, x6, x7] 61) H
noncomputable def aaH : KK := CQ (fu [1, 1, 0, 1]) aaD bC iD
noncomputable def adZ : OV := aaH (ls [x0, x1, x2, u, u, u, x6, x7, x8] 60) H
noncomputable def Ny : KX := BX 0 aaD bC
noncomputable def Hl : KX := mJ Qp Ny
noncomputable def Nw : KK := sC (fu [1, 1, 0, 1, 4, 5]) Hl iD
noncomputable def aaE : KK := dn sE Nw
noncomputable def HW : OV := Nw (ls [x0, x1, x2, u, u, u, x6, x7, x8] 60) H
noncomputable def aaJ : KK := CQ (fu [1, 1, 0, 1, 4, 5, 1]) aaE Hl iD
noncomputable def ad0 : OV := aaJ (ls [x0, x1, x2, u, u, u, x6, x7, x8] 60) H
noncomputable def Nx : KK := CQ (fu [1, 1, 0, 1, 4, 5, 1, 1]) aaE Hl iD
noncomputable def Nu : KK := dn sE Nx
noncomputable def Ox : OV := Nx (ls [x0, x1, x2, u, u, u, x6, x7, x8] 60) H
noncomputable def aaN : KX := BX 1 Nu Hl
noncomputable def aaO : KX := mJ sE aaN
noncomputable def aaL : KK := CQ (fu [1, 1, 0, 1, 4, 5, 1, 0, 4, 1]) Nu aaO iD
noncomputable def ad1 : OV := aaL (ls [x0, x1, x2, u, u, u, x6, x7, x8, x9] 59) H
noncomputable def Hj : KX := BX 2 Nu aaO
noncomputable def zX : KX := mJ sE Hj
noncomputable def Hf : KK := sC (fu [1, 1, 0, 1, 4, 5, 1, 0, 4, 1, 4, 5]) zX iD
noncomputable def R3 : KK := dn sF Hf
noncomputable def z8 : OV := Hf (ls [x0, x1, x2, u, u, u, x6, x7, x8, x9] 59) H
noncomputable def R5 : KK := CQ (fu [1, 1, 0, 1, 4, 5, 1, 0, 4, 1, 4, 5, 1]) R3 zX iD
noncomputable def S7 : OV := R5 (ls [x0, x1, x2, u, u, u, x6, x7, x8, x9] 59) H
noncomputable def Hg : KK := CQ (fu [1, 1, 0, 1, 4, 5, 1, 0, 4, 1, 4, 5, 1, 1]) R3 zX iD
noncomputable def He : KK := dn sF Hg
noncomputable def HV : OV := Hg (ls [x0, x1, x2, u, u, u, x6, x7, x8, x9] 59) H
noncomputable def R8 : KX := BX 3 He zX
noncomputable def R9 : KX := mJ sF R8
noncomputable def R6 : KK := CQ (fu [1, 1, 0, 1, 4, 5, 1, 0, 4, 1, 4, 5, 1, 0, 4, 1, 1]) He R9 iD
noncomputable def S8 : OV := R6 (ls [x0, x1, x2, u, u, u, x6, x7, x8, x9, x10] 58) H
noncomputable def Hk : KX := BX 4 He R9
noncomputable def zY : KX := mJ sF Hk
noncomputable def Hh : KK := sC (fu [1, 1, 0, 1, 4, 5, 1, 0, 4, 1, 4, 5, 1, 0, 4, 1, 1, 4, 5]) zY iD
noncomputable def R4 : KK := dn AF Hh
noncomputable def z9 : OV := Hh (ls [x0, x1, x2, u, u, u, x6, x7, x8, x9, x10] 58) H
noncomputable def R7 : KK := CQ (fu [1, 1, 0, 1, 4, 5, 1, 0, 4, 1, 4, 5, 1, 0, 4, 1, 1, 4, 5, 1]) R4 zY iD
noncomputable def S9 : OV := R7 (ls [x0, x1, x2, u, u, u, x6, x7, x8, x9, x10] 58) H
noncomputable def Hi : KK := CQ (fu [1, 1, 0, 1, 4, 5, 1, 0, 4, 1, 4, 5, 1, 0, 4, 1, 1, 4, 5, 1, 1]) R4 zY iD
noncomputable def aiQ : KK := dn AF Hi
noncomputable def Ta : OV := Hi (ls [x0, x1, x2, u, u, u, x6, x7, x8, x9, x10] 58) H
noncomputable def aiR : KX := BX 5 aiQ zY
noncomputable def rX : OV := Hk 4 (ls [x0, x1, x2, u, u, u, x6, x7, x8, x9] 59) H
noncomputable def xq : OV := Hj 2 (ls [x0, x1, x2, u, u, u, x6, x7, x8] 60) H
noncomputable def KJ : OV := Ny 0 (ls [u, u, u, u, u, u, x6, x7] 61) H
theorem dR : ap 590295810358705651647 iD := rf
theorem aaG : ap 590295810358705651512 aaF := rc dR aA dR
theorem B0 : ap Qp Nv := rc dR aA dR
theorem aaI : ap sE aaH := rc (cd B0) aA dR
theorem qg : ∀ i, ap Qp (Ny i) := rb (cd B0) aA
theorem uO : ap sE Nw := rl (cx qg) dR
theorem aaK : ap sE aaJ := rc (cd uO) (cx qg) dR
theorem uP : ap sE Nx := rc (cd uO) (cx qg) dR
theorem B1 : ∀ i, ap sE (aaN i) := rb (cd uP) (cx qg)
theorem aaM : ap sF aaL := rc (cd uP) (cx B1) dR
theorem nC : ∀ i, ap sE (Hj i) := rb (cd uP) (cx B1)
theorem rM : ap sF Hf := rl (cx nC) dR
theorem Wa : ap sF R5 := rc (cd rM) (cx nC) dR
theorem rN : ap sF Hg := rc (cd rM) (cx nC) dR
theorem wX : ∀ i, ap sF (R8 i) := rb (cd rN) (cx nC)
theorem Wb : ap AF R6 := rc (cd rN) (cx wX) dR
theorem nD : ∀ i, ap sF (Hk i) := rb (cd rN) (cx wX)
theorem rO : ap AF Hh := rl (cx nD) dR
theorem Wc : ap AF R7 := rc (cd rO) (cx nD) dR
theorem EU : ap AF Hi := rc (cd rO) (cx nD) dR
theorem Wd : ∀ i, ap AF (aiR i) := rb (cd EU) (cx nD)
theorem Ff : adY x6 x7 H =
 some (x7, H) :=
 (by kernel_rfl)
theorem W4 : Ox x0 x1 x2 x6 x7 x8 H =
 (aj .other .add x8 (vi 1)).bind fun a =>
 HW x0 x1 x2 x6 x7 a H :=
 (by kernel_rfl)
theorem Ot : HV x0 x1 x2 x6 x7 x8 x9 H =
 (aj .other .add x9 (vi 1)).bind fun a =>
 z8 x0 x1 x2 x6 x7 x8 a H :=
 (by kernel_rfl)
theorem Ow : Ta x0 x1 x2 x6 x7 x8 x9 x10 H =
 (aj .other .add x10 (vi 1)).bind fun a =>
 z9 x0 x1 x2 x6 x7 x8 x9 a H :=
 (by kernel_rfl)
theorem Ov : S9 x0 x1 x2 x6 x7 x8 x9 x10 H =
 ld [.i 1 x9] x0 H fun c =>
 (FF bn [c, x1] H).bind fun a =>
 ze 1 1 [(vi 0)] [(0, a.1)] a.2 fun d e =>
 (dN 1 8 x7 d e).bind fun b =>
 Ta x0 x1 x2 x6 b.1 x8 x9 x10 b.2 :=
 (pt rfl 0 EU (bt rfl (fu [1, 1, 0, 1, 4, 5, 1, 0, 4, 1, 4, 5, 1, 0, 4, 1, 1, 4, 5, 1, 0, 4]) 5 Wd (by kernel_rfl)))
theorem vx : rX x0 x1 x2 x6 x7 x8 x9 H = HV x0 x1 x2 x6 x7 x8 x9 H :=
 (by kernel_rfl)
theorem CB : z9 x0 x1 x2 x6 x7 x8 x9 x10 H =
 ld [.i 1 x9] x0 H fun c =>
 (FF bn [c, (vi 7)] H).bind fun b =>
 (aj .other .rem x8 (vi 3)).bind fun d =>
 (aj .other .mul b.1 d).bind fun e =>
 (aj .other .lss x10 e).bind fun a =>
 (gV a true x7).bind fun f =>
 (ue (yv a) true (ep f some) (some undef)).bind fun g =>
 (gV a true x2).bind fun j =>
 (gB a true (aj .other .lss g j)).bind fun k =>
 (aM a k (vb false)).bind fun l =>
 aw l
 (S9 x0 x1 x2 x6 x7 x8 x9 x10 b.2)
 (rX x0 x1 x2 x6 x7 x8 x9 b.2) :=
 pK rfl rO (pt rfl 0 Wc (by kernel_rfl))
theorem Ou : S8 x0 x1 x2 x6 x7 x8 x9 x10 H =
 z9 x0 x1 x2 x6 x7 x8 x9 x10 H :=
 (bt rfl (fu [1, 1, 0, 1, 4, 5, 1, 0, 4, 1, 4, 5, 1, 0, 4, 1, 1, 4]) 4 nD (li rfl (fu [1, 1, 0, 1, 4, 5, 1, 0, 4, 1, 4, 5, 1, 0, 4, 1, 1, 4, 5]) rO (by kernel_rfl)))
theorem Oq : S7 x0 x1 x2 x6 x7 x8 x9 H =
 ld [.i 1 x9] x0 H fun c =>
 (FF bn [c, x1] H).bind fun a =>
 ze 1 1 [(vi 0)] [(0, a.1)] a.2 fun d e =>
 (dN 1 8 x7 d e).bind fun b =>
 S8 x0 x1 x2 x6 b.1 x8 x9 (vi 0) b.2 :=
 (pt rfl 0 rN (bt rfl (fu [1, 1, 0, 1, 4, 5, 1, 0, 4, 1, 4, 5, 1, 0, 4]) 3 wX (pt rfl 1 Wb (by kernel_rfl))))
theorem HU : xq x0 x1 x2 x6 x7 x8 H = Ox x0 x1 x2 x6 x7 x8 H :=
 (by kernel_rfl)
theorem Oo : z8 x0 x1 x2 x6 x7 x8 x9 H =
 ep x0 fun b =>
 (aj .other .lss x9 b).bind fun a =>
 (gV a true x7).bind fun c =>
 (ue (yv a) true (ep c some) (some undef)).bind fun d =>
 (gV a true x2).bind fun e =>
 (gB a true (aj .other .lss d e)).bind fun f =>
 (aM a f (vb false)).bind fun g =>
 aw g
 (S7 x0 x1 x2 x6 x7 x8 x9 H)
 (xq x0 x1 x2 x6 x7 x8 H) :=
 pK rfl rM (pt rfl 0 Wa (by kernel_rfl))
theorem W5 : ad1 x0 x1 x2 x6 x7 x8 x9 H =
 z8 x0 x1 x2 x6 x7 x8 x9 H :=
 (bt rfl (fu [1, 1, 0, 1, 4, 5, 1, 0, 4, 1, 4]) 2 nC (li rfl (fu [1, 1, 0, 1, 4, 5, 1, 0, 4, 1, 4, 5]) rM (by kernel_rfl)))
theorem W3 : ad0 x0 x1 x2 x6 x7 x8 H =
 ad1 x0 x1 x2 x6 x7 x8 (vi 0) H :=
 (pt rfl 0 uP (bt rfl (fu [1, 1, 0, 1, 4, 5, 1, 0, 4]) 1 B1 (pt rfl 0 aaM (by kernel_rfl))))
theorem yD : KJ x6 x7 H = adY x6 x7 H :=
 (by kernel_rfl)
theorem Fg : HW x0 x1 x2 x6 x7 x8 H =
 (aj .other .lss x8 (vi 40)).bind fun a =>
 (gV a true x0).bind fun b =>
 (ue (yv a) true (ep b some) (some undef)).bind fun c =>
 (gB a true (aj .other .gtr c (vi 0))).bind fun d =>
 (aM a d (vb false)).bind fun e =>
 aw e
 (ad0 x0 x1 x2 x6 x7 x8 H)
 (KJ x6 x7 H) :=
 pK rfl uO (pt rfl 0 aaK (by kernel_rfl))
theorem W0 : adZ x0 x1 x2 x6 x7 x8 H =
 HW x0 x1 x2 x6 x7 x8 H :=
 (bt rfl (fu [1, 1, 0, 1, 4]) 0 qg (li rfl (fu [1, 1, 0, 1, 4, 5]) uO (by kernel_rfl)))
theorem WZ : adX x0 x1 x2 x6 x7 H =
 adZ x0 x1 x2 x6 x7 (vi 0) H :=
 (pt rfl 0 B0 (pt rfl 0 aaI (by kernel_rfl)))
noncomputable def pMa : OV := aT PP GG FF (fu []) (ls [x0, x1, x2] 66) H iD bC iD
theorem amG {r : Value × AH} (h : (
 adX x0 x1 x2 (.slice none 0 0) (.slice none 0 0) H) = some r) : FF SV [x0, x1, x2] H = some r :=
 fo (t := pMa x0 x1 x2 H) Tryz.func30 (by kernel_rfl) (Eq.trans (pt rfl 1 aaG (by kernel_rfl)) h)
theorem ss {r : Value × AH} (h : (
 ld [.n, .f 10] x0 H fun a =>
 ep a fun b =>
 some (b, H)) = some r) : FF hZ [x0] H = some r :=
 fo Tryz.func37 (by kernel_rfl) h
theorem vY {r : Value × AH} (h : (
 ad [.n, .f 0] x0 fun a =>
 (au a H).bind fun d =>
 (FF cr [x0, (vi 11), (vi 0)] H).bind fun b =>
 bJ (au a b.2) (au a H) <|
 (FF cq [d, x1, b.1] b.2).bind fun c =>
 some (c.1, c.2)) = some r) : FF f7 [x0, x1] H = some r :=
 fo Tryz.func40 (by kernel_rfl) h
noncomputable def sL (p : List Nat) : Code := Code.sub (bP Tryz.f41) p
noncomputable def qj : KK := e6 PP (Tryz.f41).results.toList
noncomputable def abD : KK := CQ (sL [1, 1, 1, 1]) qj bC qj
noncomputable def ad2 : OV := abD (ls [u, u, x2, x3, x4] 25) H
noncomputable def NJ : KK := CQ (sL [1, 1, 1, 1, 1]) qj bC qj
noncomputable def abB : KK := dn 1073741803 NJ
noncomputable def ad3 : OV := NJ (ls [u, u, x2, u, x4] 25) H
noncomputable def abF : KK := CQ (sL [1, 1, 1, 1, 0, 1]) abB bC qj
noncomputable def ad4 : OV := abF (ls [u, u, x2, u, x4, u, u, u, u, u, u, u, u, u, x14, x15, x16] 13) H
noncomputable def NM : KX := BX 0 abB bC
noncomputable def Hu : KX := mJ 1073741803 NM
noncomputable def NK : KK := sC (sL [1, 1, 1, 1, 0, 1, 4, 5]) Hu qj
noncomputable def abC : KK := dn AM NK
noncomputable def HX : OV := NK (ls [u, u, x2, u, x4, u, u, u, u, u, u, u, u, u, x14, x15, x16] 13) H
noncomputable def abH : KK := CQ (sL [1, 1, 1, 1, 0, 1, 4, 5, 1, 1]) abC Hu qj
noncomputable def ad5 : OV := abH (ls [u, u, x2, u, x4, u, u, u, u, u, u, u, u, u, x14, x15, x16] 13) H
noncomputable def NL : KK := CQ (sL [1, 1, 1, 1, 0, 1, 4, 5, 1, 1, 1]) abC Hu qj
noncomputable def al3 : KK := dn AM NL
noncomputable def ad6 : OV := NL (ls [u, u, x2, u, x4, u, u, u, u, u, u, u, u, u, x14, x15, x16] 13) H
noncomputable def al4 : KX := BX 1 al3 Hu
noncomputable def KM : OV := NM 0 (ls [u, u, x2, u, x4] 25) H
theorem ml : ap 1073741819 qj := rf
theorem abE : ap 1073741795 abD := rc ml aA ml
theorem B6 : ap 1073741803 NJ := rc ml aA ml
theorem abG : ap AM abF := rc (cd B6) aA ml
theorem qk : ∀ i, ap 1073741803 (NM i) := rb (cd B6) aA
theorem uU : ap AM NK := rl (cx qk) ml
theorem abI : ap AM abH := rc (cd uU) (cx qk) ml
theorem Ke : ap AM NL := rc (cd uU) (cx qk) ml
theorem abJ : ∀ i, ap AM (al4 i) := rb (cd Ke) (cx qk)
theorem W7 : ad3 x2 x4 H =
 some (x4, H) :=
 (by kernel_rfl)
theorem Xa : ad6 x2 x4 x14 x15 x16 H =
 (aj .other .add x16 (vi 1)).bind fun a =>
 HX x2 x4 x14 x15 a H :=
 (by kernel_rfl)
theorem W9 : ad5 x2 x4 x14 x15 x16 H =
 ldN 7 [.i 7 x16] x14 H fun g =>
 aW [(vi 0), (vi 0), (vi 0), (vi 0), (.slice none 0 0), (vi 0), (vw 0)] H fun a j =>
 (dc 7 a g j).bind fun b =>
 ldN 4 [.f 3] a b fun k =>
 (FF mt [k] b).bind fun c =>
 st 4 [.f 3] a c.1 c.2 fun d =>
 (aC 7 a d).bind fun l =>
 ze 1 7 [(vi 0), (vi 0), (vi 0), (vi 0), (.slice none 0 0), (vi 0), (vw 0)] [(0, l)] d fun m n =>
 (dN 7 72 x4 m n).bind fun e =>
 ad6 x2 e.1 x14 x15 x16 e.2 :=
 (pt rfl 0 Ke (bt rfl (sL [1, 1, 1, 1, 0, 1, 4, 5, 1, 1, 0, 4]) 1 abJ (by kernel_rfl)))
theorem KN : KM x2 x4 H = ad3 x2 x4 H :=
 (by kernel_rfl)
theorem Fh : HX x2 x4 x14 x15 x16 H =
 (aj .other .lss x16 x15).bind fun a =>
 aw a
 (ad5 x2 x4 x14 x15 x16 H)
 (KM x2 x4 H) :=
 pK rfl uU (pt rfl 1 abI (by kernel_rfl))
theorem W8 : ad4 x2 x4 x14 x15 x16 H =
 HX x2 x4 x14 x15 x16 H :=
 (bt rfl (sL [1, 1, 1, 1, 0, 1, 4]) 0 qk (li rfl (sL [1, 1, 1, 1, 0, 1, 4, 5]) uU (by kernel_rfl)))
theorem W6 : ad2 x2 x3 x4 H =
 ep x3 fun a =>
 ad4 x2 x4 x3 a (vi 0) H :=
 (pt rfl 0 B6 (pt rfl 0 abG (by kernel_rfl)))
noncomputable def pPP : OV := aT PP GG FF (sL []) (ls [x0] 29) H qj bC qj
theorem amH {r : Value × AH} (h : (
 ld [.n, .f 12] x0 H fun b =>
 (FF adH [b] H).bind fun a =>
 (FF adJ [a.1, (.func (.func cU) #[] #[])] a.2).bind fun c =>
 ad2 (.slice none 0 0) a.1 (.slice none 0 0) c.2) = some r) : FF adC [x0] H = some r :=
 fo (t := pPP x0 H) Tryz.func41 (by kernel_rfl) (Eq.trans (pt rfl 3 abE (by kernel_rfl)) h)
theorem t7 {r : Value × AH} (h : (
 ad [.n, .f 0] x0 fun a =>
 (au a H).bind fun e =>
 (FF bx [x0, x2] H).bind fun b =>
 bJ (au a b.2) (au a H) <|
 (FF cr [x0, (vi 15), b.1] b.2).bind fun c =>
 bJ (au a c.2) (au a H) <|
 (FF cq [e, x1, c.1] c.2).bind fun d =>
 (aj .other .add x2 (vw 1)).bind fun g =>
 (aj .other .eql d.1 g).bind fun i =>
 some (i, d.2)) = some r) : FF fD [x0, x1, x2] H = some r :=
 fo Tryz.func42 (by kernel_rfl) h
theorem xO {r : Value × AH} (h : (
 aW [(vi 0), (vi 0), (vi 0)] H fun k b =>
 ad [.n, .f 0] x0 fun a =>
 (au a b).bind fun m =>
 (FF bx [x0, x2] b).bind fun d =>
 bJ (au a d.2) (au a b) <|
 (FF cr [x0, (vi 16), d.1] d.2).bind fun e =>
 bJ (au a e.2) (au a b) <|
 (FF iM [m, x1, e.1] e.2).bind fun g =>
 ad [.n, .f 2] x0 fun j =>
 (au j g.2).bind fun o =>
 (FF bx [x0, x2] g.2).bind fun c =>
 bJ (au j c.2) (au j g.2) <|
 ldN 3 [.i 3 c.1] o c.2 fun p =>
 (dc 3 k p c.2).bind fun l =>
 (aC 3 k l).bind fun q => some (q, l)) = some r) : FF km [x0, x1, x2] H = some r :=
 fo Tryz.func43 (by kernel_rfl) h
theorem HZ {r : Value × AH} (h : (
 aW (Value.cells x0).toList H fun a m =>
 (aC 5 a m).bind fun n =>
 (FF mR [n] m).bind fun j =>
 (pM .not j.1).bind fun o =>
 aw o
 (some (Value.tuple #[(.pointer none), (vi 1)], j.2))
 ((FF xo [] j.2).bind fun b =>
 ld [.f 0] a b.2 fun p =>
 (FF qz [b.1, p] b.2).bind fun c =>
 ad [.f 0] a fun k =>
 (au k c.2).bind fun q =>
 bJ (au k b.2) (au k c.2) <|
 ad [.f 1] a fun l =>
 (au l c.2).bind fun s =>
 bJ (au l b.2) (au l c.2) <|
 (FF qG [b.1, q, s] c.2).bind fun d =>
 ad [.f 2] a fun i =>
 (au i d.2).bind fun t =>
 bJ (au i b.2) (au i d.2) <|
 bJ (au i c.2) (au i d.2) <|
 (FF tI [b.1, t] d.2).bind fun e =>
 (aC 5 a e.2).bind fun w =>
 bJ (aC 5 a b.2) (aC 5 a e.2) <|
 bJ (aC 5 a c.2) (aC 5 a e.2) <|
 bJ (aC 5 a d.2) (aC 5 a e.2) <|
 (FF tD [w] e.2).bind fun g =>
 (aC 5 a g.2).bind fun y =>
 bJ (aC 5 a b.2) (aC 5 a g.2) <|
 bJ (aC 5 a c.2) (aC 5 a g.2) <|
 bJ (aC 5 a d.2) (aC 5 a g.2) <|
 bJ (aC 5 a e.2) (aC 5 a g.2) <|
 D3 g.2 fun z A =>
 iz [(0, 1), (1, 1), (2, 1), (3, 1), (4, 1), (5, 5), (10, 1), (11, 1), (12, 1)] [(.pointer none), (.pointer none), (.pointer none), (.pointer none), (.pointer none), (vi 0), (vi 0), (vi 0), (vi 0), (vw 0), (.slice none 0 0), (.map none), (.slice none 0 0)] [(0, b.1), (1, c.1), (2, d.1), (3, e.1), (4, g.1), (5, y), (7, z)] fun B =>
 aW (Value.cells B).toList A fun C D =>
 some (Value.tuple #[C, (vi 0)], D))) = some r) : FF qB [x0] H = some r :=
 fo Tryz.func44 (by kernel_rfl) h
theorem zy {r : Value × AH} (h : (
 aW (Value.cells x0).toList H fun a m =>
 iz [(0, 1), (1, 1), (2, 1)] [(.slice none 0 0), (.slice none 0 0), (.slice none 0 0)] [] fun n =>
 aW (Value.cells n).toList m fun i b =>
 (aC 5 a b).bind fun o =>
 ld [.f 0] a b fun p =>
 (FF lO [i, p] b).bind fun c =>
 bJ (aC 5 a c.2) (aC 5 a b) <|
 ad [.f 0] a fun j =>
 (au j c.2).bind fun q =>
 bJ (au j b) (au j c.2) <|
 ad [.f 1] a fun k =>
 (au k c.2).bind fun s =>
 bJ (au k b) (au k c.2) <|
 (FF lQ [i, q, s] c.2).bind fun d =>
 bJ (aC 5 a d.2) (aC 5 a b) <|
 ad [.f 2] a fun g =>
 (au g d.2).bind fun t =>
 bJ (au g b) (au g d.2) <|
 bJ (au g c.2) (au g d.2) <|
 (FF mV [i, t] d.2).bind fun e =>
 bJ (aC 5 a e.2) (aC 5 a b) <|
 (aC 5 a e.2).bind fun w =>
 bJ (aC 5 a b) (aC 5 a e.2) <|
 bJ (aC 5 a c.2) (aC 5 a e.2) <|
 bJ (aC 5 a d.2) (aC 5 a e.2) <|
 (FF mU [w] e.2).bind fun l =>
 bJ (aC 5 a l.2) (aC 5 a b) <|
 iz [(0, 5), (5, 1), (6, 1), (7, 1), (8, 1), (9, 1), (10, 1), (11, 1), (12, 1), (13, 1)] [(vi 0), (vi 0), (vi 0), (vi 0), (vw 0), (.pointer none), (.pointer none), (.pointer none), (.pointer none), (.pointer none), (.slice none 0 0), (.slice none 0 0), (.slice none 0 0), (.slice none 0 0)] [(0, o), (1, i), (2, c.1), (3, d.1), (4, e.1), (5, l.1)] fun y =>
 aW (Value.cells y).toList l.2 fun z A =>
 some (z, A)) = some r) : FF lP [x0] H = some r :=
 fo Tryz.func45 (by kernel_rfl) h
theorem y6 {r : Value × AH} (h : (
 aW (Value.cells x0).toList H fun i l =>
 ld [.f 1] i l fun s =>
 ldN 5 [.n, .f 0] s l fun t =>
 aW [(vi 0), (vi 0), (vi 0), (vi 0), (vw 0)] l fun g w =>
 (dc 5 g t w).bind fun p =>
 ld [.f 4] g p fun y =>
 (FF mT [y, x2] p).bind fun m =>
 (ak m.1 0).bind fun z =>
 (ak m.1 1).bind fun a3 =>
 iz [(0, 1), (1, 1), (2, 1)] [(vi 0), (vi 0), (vw 0)] [(0, x1), (1, x3), (2, z)] fun A =>
 aW [(vi 0), (vi 0), (vw 0)] m.2 fun j B =>
 (dc 3 j A B).bind fun k =>
 ld [.f 0] i k fun C =>
 (aC 3 j k).bind fun D =>
 (FF hF [C, (vi 0), D] k).bind fun d =>
 ad [.f 1] i fun o =>
 (au o d.2).bind fun E =>
 bJ (au o k) (au o d.2) <|
 (aC 3 j d.2).bind fun G =>
 bJ (aC 3 j k) (aC 3 j d.2) <|
 (FF jx [E, (vi 0), G] d.2).bind fun c =>
 (aj .other .eql d.1 c.1).bind fun a =>
 fG a true  [.f 0] i c.2 fun I =>
 fG a true  [.n, .f 2] I c.2 fun J =>
 (gV a true x1).bind fun K =>
 fG a true  [.f 0] g c.2 fun L =>
 (gB a true (aj .other .rem K L)).bind fun M =>
 (gV a true x1).bind fun N =>
 fG a true  [.f 0] g c.2 fun O =>
 (gB a true (aj .other .quo N O)).bind fun P =>
 (gV a true x1).bind fun Q =>
 (gV a true d.1).bind fun R =>
 (gE a true c.2 (FF iQ [J, (vi 0), M, P, Q, R] c.2)).bind fun e =>
 (aM a e.1 (vb false)).bind fun b =>
 fG b true  [.f 1] i e.2 fun S =>
 fG b true  [.n, .f 7] S e.2 fun T =>
 (gV b true x1).bind fun U =>
 fG b true  [.f 0] g e.2 fun V =>
 (gB b true (aj .other .rem U V)).bind fun W =>
 (gV b true x1).bind fun X =>
 fG b true  [.f 0] g e.2 fun Y =>
 (gB b true (aj .other .quo X Y)).bind fun Z =>
 (gV b true x1).bind fun a0 =>
 (gV b true c.1).bind fun a1 =>
 (gE b true e.2 (FF kj [T, (vi 0), W, Z, a0, a1] e.2)).bind fun q =>
 (aM b q.1 (vb false)).bind fun a2 =>
 some (a2, q.2)) = some r) : FF lL [x0, x1, x2, x3] H = some r :=
 fo Tryz.func46 (by kernel_rfl) h
theorem nJ {r : Value × AH} (h : (
 (FF qy [x0, x1, (.func (.func mQ) #[] #[])] H).bind fun a =>
 some (a.1, a.2)) = some r) : FF eI [x0, x1] H = some r :=
 fo Tryz.func49 (by kernel_rfl) h
theorem y8 {r : Value × AH} (h : (
 aW (Value.cells x2).toList H fun a b =>
 (aC 3 a b).bind fun e =>
 (FF cM [x0, x1, (vi 1), e] b).bind fun c =>
 (aC 3 a c.2).bind fun f =>
 (FF d6 [x0, f] c.2).bind fun d =>
 some (d.1, d.2)) = some r) : FF cq [x0, x1, x2] H = some r :=
 fo Tryz.func56 (by kernel_rfl) h
theorem Ed {r : Value × AH} (h : (
 aW [(vi 0), (vi 0), (vi 0)] H fun a c =>
 iz [(0, 1), (1, 1), (2, 1)] [(vi 0), (vi 0), (vi 0)] [(0, (vi 10)), (1, x0), (2, x1)] fun d =>
 (dc 3 a d c).bind fun b =>
 (aC 3 a b).bind fun e => some (e, b)) = some r) : FF kK [x0, x1] H = some r :=
 fo Tryz.func57 (by kernel_rfl) h
theorem sx {r : Value × AH} (h : (
 (aj .other .geq x1 (vi 0)).bind fun a =>
 (gV a true x1).bind fun b =>
 (gV a true x0).bind fun c =>
 fG a true  [.n, .f 10] c H fun d =>
 (ue (yv a) true (ep d some) (some undef)).bind fun e =>
 (gB a true (aj .other .lss b e)).bind fun g =>
 (aM a g (vb false)).bind fun i =>
 some (i, H)) = some r) : FF eJ [x0, x1] H = some r :=
 fo Tryz.func58 (by kernel_rfl) h
theorem za {r : Value × AH} (h : (
 aW (Value.cells x2).toList H fun b a =>
 (aC 3 b a).bind fun c =>
 (FF cM [x0, x1, (vi 5), c] a).bind fun d =>
 some (Value.tuple #[], d.2)) = some r) : FF iM [x0, x1, x2] H = some r :=
 fo Tryz.func59 (by kernel_rfl) h
theorem vd {r : Value × AH} (h : (
 aW (Value.cells x0).toList H fun a b =>
 ld [.f 0] a b fun d =>
 (FF gn [d, x1, x2] b).bind fun c =>
 ld [.f 1] a c.2 fun e =>
 (FF iP [e, x1, x2] c.2).bind fun g =>
 some (Value.tuple #[], g.2)) = some r) : FF ju [x0, x1, x2] H = some r :=
 fo Tryz.func60 (by kernel_rfl) h
theorem MM {r : Value × AH} (h : (
 aW (Value.cells x2).toList H fun b a =>
 (aC 4 b a).bind fun e =>
 ld [.n, .f 2] x0 a fun g =>
 ld [.f 1] b a fun i =>
 (FF gq [g, i] a).bind fun c =>
 bJ (aC 4 b c.2) (aC 4 b a) <|
 iz [(0, 1), (1, 1), (2, 4), (6, 1), (7, 1), (8, 1), (9, 1), (10, 1), (11, 1), (12, 1), (13, 1), (14, 1), (15, 1)] [(.pointer none), (vi 0), (vi 0), (vi 0), (vi 0), (vi 0), (vi 0), Value.nilFunc, (vi 0), (vi 0), (vb false), (.pointer none), (vw 0), (vw 0), (vi 0), (vw 0)] [(0, x0), (1, x1), (2, e), (3, c.1)] fun j =>
 aW (Value.cells j).toList c.2 fun d k =>
 st 1 [.n, .f 7] d (.func (.func lK) #[d] #[]) k fun l =>
 some (d, l)) = some r) : FF xn [x0, x1, x2] H = some r :=
 fo Tryz.func61 (by kernel_rfl) h
theorem CS {r : Value × AH} (h : (
 aW (Value.cells x2).toList H fun b a =>
 (aC 4 b a).bind fun c =>
 iz [(0, 1), (1, 1), (2, 4), (6, 1), (7, 1), (8, 1), (9, 1), (10, 1), (11, 1), (12, 1), (13, 1), (14, 1), (15, 1), (16, 1), (17, 4), (21, 1), (22, 1), (23, 1), (24, 1), (25, 1), (26, 3), (29, 1), (30, 4)] [(.pointer none), (vi 0), (vi 0), (vi 0), (vi 0), (vi 0), (vi 0), (vi 0), (vi 0), (vb false), (vi 0), (vw 0), (vw 0), (vw 0), (vw 0), (vw 0), (vi 0), (vi 0), (.slice none 0 0), (vi 0), (vw 0), (vi 0), (vi 0), (.slice none 0 0), (vw 0), (vw 0), (vi 0), (vi 0), (vi 0), (vb false), (vi 0), (.slice none 0 0), (vi 0), (vw 0)] [(0, x0), (1, x1), (2, c), (5, (vi (-1)))] fun d =>
 aW (Value.cells d).toList a fun e f =>
 some (e, f)) = some r) : FF mX [x0, x1, x2] H = some r :=
 fo Tryz.func62 (by kernel_rfl) h
theorem My {r : Value × AH} (h : (
 aW [(vi 0), (.slice none 0 0), (vi 0), (vw 0)] H fun b d =>
 ld [.n, .f 7] x0 d fun g =>
 (b5 g [x1]).bind fun c => (FF c.1 c.2 d).bind fun a =>
 (ak a.1 0).bind fun i =>
 (ak a.1 1).bind fun j =>
 (dc 4 b i a.2).bind fun e =>
 (aC 4 b e).bind fun k => some (Value.tuple #[k, j], e)) = some r) : FF xm [x0, x1] H = some r :=
 fo Tryz.func63 (by kernel_rfl) h
end
end Go.Proofs.YtghoamdlcjdfjaaGreatDoor.Gst
