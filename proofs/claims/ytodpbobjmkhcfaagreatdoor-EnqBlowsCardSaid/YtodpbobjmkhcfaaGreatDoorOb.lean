/- Several texts in one. -/
import Derived.Test.YtodpbobjmkhcfaaGreatDoorOa
namespace Go.Proofs.YtodpbobjmkhcfaaGreatDoor.Gst
open Go Go.RowKit
set_option linter.unusedSimpArgs false
def rL (ops : List Oper) : Bool :=
 let ms := bL ops
 ops.zipIdx.all (fun p => p.1.after.toList.all fun e => !Region.binds .any e || decide (e.on < p.2)) &&
 ops.zipIdx.all fun q => (ops.zipIdx.take q.2).all fun p => fb ms p.2 q.2 || (p.1.apart ops.toArray q.1 && !(jG p.1.op == 3 && jG q.1.op == 3))
def db (ops : List Oper) : List (Nat × Nat) :=
 let ms := bL ops
 (ops.zipIdx.filter fun p => jG p.1.op == 2).flatMap fun p => ((ops.zipIdx.filter fun q => jG q.1.op == 3 && !fb ms q.2 p.2 && !fb ms p.2 q.2).map fun q => (p.2, q.2))
def iM (P : Program) (G : List Nat) (call : bh) (ops : Array Oper) (A : List Value) (H : AH) (i : Nat) : List Value × AH := (cz P G call ops (ops.toList.take i) A H).getD (A, H)
def iU (P : Program) (s : Nat → List Value × AH) (ops : Array Oper) (p : Nat × Nat) : Prop :=
 ∀ o, ops[p.1]? = some o → zw P (eg (s p.1).1) o.op (s (if p.2 < p.1 then p.2 else p.2 + 1)).2 = zw P (eg (s p.1).1) o.op (s p.1).2
open Classical in
noncomputable def Id {α : Type} (p : Prop) (x : Option α) : Option α := if p then x else none
theorem mo {α : Type} {p : Prop} {x : Option α} {r : α} (h : Id p x = some r) : p ∧ x = some r := by
 unfold Id at h
 split at h
 ·exact ⟨by assumption, h⟩
 ·cases h
theorem ju {α : Type} {p : Prop} (h : p) (x : Option α) : Id p x = x := by unfold Id; rw [if_pos h]
noncomputable def kZ (P : Program) (G : List Nat) (call : bh) (ops : Array Oper) (A : List Value) (H : AH) : Option (List Value × AH) :=
 match rL ops.toList with
 | false => none
 | true => match db ops.toList with
  | [] => cz P G call ops ops.toList A H
  | p :: ps => Id (∀ q ∈ p :: ps, iU P (iM P G call ops A H) ops q) (cz P G call ops ops.toList A H)
theorem e7 {P : Program} {G : List Nat} {call : bh} {ops : Array Oper} {A : List Value} {H : AH} {r : List Value × AH} (h : kZ P G call ops A H = some r) :
 rL ops.toList = true ∧ (∀ p ∈ db ops.toList, iU P (iM P G call ops A H) ops p) ∧ cz P G call ops ops.toList A H = some r := by
 unfold kZ at h
 cases h1 : rL ops.toList with
 | false => rw [h1] at h; cases h
 | true =>
  rw [h1] at h
  refine ⟨rfl, ?_⟩
  cases h2 : db ops.toList with
  | nil => rw [h2] at h; exact ⟨fun p hp => (by cases hp), h⟩
  | cons p ps =>
   rw [h2] at h
   exact mo h
section
variable {P : Program} {w0 : World} {B : Nat} {ρ : bv} {H : AH} {w : World} {G : List Nat} {call : bh} {ops : Array Oper}
theorem wG (l1 l2 : List Oper) (A : List Value) (H : AH) : cz P G call ops (l1 ++ l2) A H = (cz P G call ops l1 A H).bind fun s => cz P G call ops l2 s.1 s.2 := by
 induction l1 generalizing A H with
 | nil => rfl
 | cons o l ih =>
  simp only [List.cons_append, cz]
  rw [Option.bind_assoc]
  congr 1
  funext s
  exact ih s.1 s.2
theorem uR {A : List Value} {r : List Value × AH} (h : cz P G call ops ops.toList A H = some r) (i : Nat) : cz P G call ops (ops.toList.take i) A H = some (iM P G call ops A H i) := by
 unfold iM
 have e : ops.toList = ops.toList.take i ++ ops.toList.drop i := (List.take_append_drop ..).symm
 rw [e, wG] at h
 obtain ⟨s, hs, _⟩ := Option.bind_eq_some_iff.1 h
 rw [hs]; rfl
theorem acY (A : List Value) : iM P G call ops A H 0 = (A, H) := rfl
theorem agA {A : List Value} {r : List Value × AH} (h : cz P G call ops ops.toList A H = some r) : iM P G call ops A H ops.size = r := by
 unfold iM
 rw [show ops.size = ops.toList.length by simp, List.take_length, h]
 rfl
theorem Ko {A : List Value} {r : List Value × AH} (h : cz P G call ops ops.toList A H = some r) {i : Nat} {o : Oper} (ho : ops[i]? = some o) :
 e8 P G call ops o (iM P G call ops A H i).1 (iM P G call ops A H i).2 = some (iM P G call ops A H (i + 1)) := by
 have ho' : ops.toList[i]? = some o := by simpa using ho
 have h1 := uR h (i + 1)
 rw [List.take_add_one, ho', Option.toList_some, wG, uR h i] at h1
 simp only [Option.bind_some, cz] at h1
 obtain ⟨s, hs, e⟩ := Option.bind_eq_some_iff.1 h1
 rw [hs]
 exact e
noncomputable def ak2 (P : Program) (G : List Nat) (call : bh) (ops : Array Oper) (A : List Value) (H : AH) (i : Nat) : Value :=
 match ops[i]? with
 | some o => if Region.wanted o (cU ops (iM P G call ops A H i).1) = true then ((dE P call (eg (iM P G call ops A H i).1) o (iM P G call ops A H i).2).map (·.1)).getD undef else undef
 | none => undef
theorem NO (h : rL ops.toList = true) : ∀ j o, ops[j]? = some o → ∀ e ∈ o.after, Region.binds .any e = true → e.on < j := by
 intro j o ho e he hb
 unfold rL at h
 simp only [Bool.and_eq_true, List.all_eq_true] at h
 have ho' : ops.toList[j]? = some o := by simpa using ho
 have hm : (o, j) ∈ ops.toList.zipIdx := by
  rw [List.mem_iff_getElem?]
  exact ⟨j, by rw [List.getElem?_zipIdx, ho']; simp⟩
 have := h.1 (o, j) hm e (by simpa using he)
 simpa [hb] using this
theorem NP (h : rL ops.toList = true) : ∀ i j oi oj, i < j → ops[i]? = some oi → ops[j]? = some oj → fb (bL ops.toList) i j = true ∨ (oi.apart ops oj = true ∧ ¬ (jG oi.op = 3 ∧ jG oj.op = 3)) := by
 intro i j oi oj hij hi hj
 unfold rL at h
 simp only [Bool.and_eq_true, List.all_eq_true] at h
 have hi' : ops.toList[i]? = some oi := by simpa using hi
 have hj' : ops.toList[j]? = some oj := by simpa using hj
 have hm : (oj, j) ∈ ops.toList.zipIdx := by
  rw [List.mem_iff_getElem?]
  exact ⟨j, by rw [List.getElem?_zipIdx, hj']; simp⟩
 have hm2 : (oi, i) ∈ ops.toList.zipIdx.take j := by
  rw [List.mem_iff_getElem?]
  exact ⟨i, by rw [List.getElem?_take, if_pos hij, List.getElem?_zipIdx, hi']; simp⟩
 have := h.2 (oj, j) hm (oi, i) hm2
 simp only [Bool.or_eq_true, Bool.and_eq_true, Bool.not_eq_true', Bool.and_eq_false_iff, beq_eq_false_iff_ne, Array.toArray_toList] at this
 rcases this with h1 | ⟨h1, h2⟩
 ·exact .inl h1
 ·exact .inr ⟨h1, fun h3 => by rcases h2 with h2 | h2; exact h2 h3.1; exact h2 h3.2⟩
theorem C1 {j e : Nat} {oj oe : Oper} (hj : ops[j]? = some oj) (he : ops[e]? = some oe) (h2 : jG oj.op = 2) (h3 : jG oe.op = 3) (hf1 : fb (bL ops.toList) e j = false) (hf2 : fb (bL ops.toList) j e = false) : (j, e) ∈ db ops.toList := by
 have hj' : ops.toList[j]? = some oj := by simpa using hj
 have he' : ops.toList[e]? = some oe := by simpa using he
 unfold db
 simp only [List.mem_flatMap, List.mem_filter, List.mem_map]
 refine ⟨(oj, j), ⟨?_, by simp [h2]⟩, (oe, e), ⟨?_, by simp [h3, hf1, hf2]⟩, rfl⟩
 ·rw [List.mem_iff_getElem?]; exact ⟨j, by rw [List.getElem?_zipIdx, hj']; simp⟩
 ·rw [List.mem_iff_getElem?]; exact ⟨e, by rw [List.getElem?_zipIdx, he']; simp⟩
noncomputable def ahF {A : List Value} {r : List Value × AH} (h : kZ P G call ops A H = some r) : Tra P G call ops where
 s := iM P G call ops A H
 val := ak2 P G call ops A H
 step := fun i o ho => by
  obtain ⟨_, _, hr⟩ := e7 h
  have hs := Ko hr ho
  unfold e8 at hs
  split at hs
  ·rename_i hok
   refine ⟨hok, ?_⟩
   unfold ak2
   rw [ho]
   simp only
   split at hs
   ·rename_i hw
    obtain ⟨⟨v, H2⟩, hv, e⟩ := Option.map_eq_some_iff.1 hs
    rw [if_pos hw, hv, ← e]
    exact ⟨rfl, .inl ⟨hw, rfl⟩⟩
   ·rename_i hw
    rw [if_neg hw]
    have e := (Option.some.inj hs).symm
    rw [e]
    exact ⟨rfl, .inr ⟨by simpa using hw, rfl, rfl⟩⟩
  ·cases hs
 back := NO (e7 h).1
 pair := NP (e7 h).1
 look := fun j e oj oe hj he h2 h3 hf1 hf2 => (e7 h).2.1 (j, e) (C1 hj he h2 h3 hf1 hf2) oj hj
theorem Le (hcall : ku P G call) (hmono : fZ call) (hm : P.follows .mixedOrders = true) {id : Nat} {Q : Exit → Act → World → Prop} {A : List Value} {a : Act} {A' : List Value} {H' : AH} (h : kZ P G call ops A H = some (A', H'))
 (hA : bS P ρ A a) (hG : GlobRel ρ G) (hR : Rel P w0 B ρ H w) (hQ : ∀ a' w', zp P w0 B G ρ H w A' H' a' w' → Q .normal a' w') : (Code.region id ops true).wp P Q a w := by
 have W : Way (ahF h) w0 B ρ w.drew := ⟨hcall, hmono, hG, hR.drew, ⟨a, hA⟩⟩
 refine NQ W hm (w := w) rfl hA (fun a' w' hp => hQ a' w' ?_)
 obtain ⟨ρ', h1, h2, h3, h4⟩ := hp
 have e : (ahF h).s ops.size = (A', H') := agA (e7 h).2.2
 rw [e] at h1 h3 h4
 exact ⟨ρ', h1, h2, gZ.of_drew h3, h4⟩
end
inductive AE where
 | normal
 | exit (id : Nat)
 | ret
deriving DecidableEq
abbrev AR := AE × List Value × AH
def dQ (f : List Value → AH → Option AR) : Nat → List Value → AH → Option AR
 | 0, _, _ => none
 | n + 1, A, H => (f A H).bind fun r => match r.1 with
  | .normal => dQ f n r.2.1 r.2.2
  | _ => some r
theorem zu {f : List Value → AH → Option AR} {n : Nat} {A : List Value} {H : AH} {r : AR} (h : dQ f n A H = some r) : ∀ m, n ≤ m → dQ f m A H = some r := by
 induction n generalizing A H with
 | zero => cases h
 | succ n ih =>
  intro m hm
  obtain ⟨m, rfl⟩ : ∃ k, m = k + 1 := ⟨m - 1, by omega⟩
  simp only [dQ] at h ⊢
  obtain ⟨s, hs, h⟩ := Option.bind_eq_some_iff.1 h
  rw [hs]
  simp only [Option.bind_some]
  split at h
  ·exact ih h m (by omega)
  ·exact h
open Classical in
noncomputable def od (f : List Value → AH → Option AR) (A : List Value) (H : AH) : Option AR := if h : ∃ n r, dQ f n A H = some r then some h.choose_spec.choose else none
theorem cy {f : List Value → AH → Option AR} {A : List Value} {H : AH} {r : AR} : od f A H = some r ↔ ∃ n, dQ f n A H = some r := by
 unfold od
 constructor
 ·intro h
  split at h
  ·rename_i hx
   cases h
   exact ⟨_, hx.choose_spec.choose_spec⟩
  ·cases h
 ·rintro ⟨n, hn⟩
  have hx : ∃ n r, dQ f n A H = some r := ⟨n, r, hn⟩
  rw [dif_pos hx]
  have h1 := zu hx.choose_spec.choose_spec (max n hx.choose) (Nat.le_max_right ..)
  have h2 := zu hn (max n hx.choose) (Nat.le_max_left ..)
  rw [h2] at h1
  exact h1.symm
theorem Wt (f : List Value → AH → Option AR) (A : List Value) (H : AH) : od f A H = (f A H).bind fun r => match r.1 with | .normal => od f r.2.1 r.2.2 | _ => some r := by
 apply Option.ext
 intro r
 rw [cy]
 constructor
 ·rintro ⟨n, hn⟩
  cases n with
  | zero => cases hn
  | succ n =>
   simp only [dQ] at hn
   obtain ⟨s, hs, h⟩ := Option.bind_eq_some_iff.1 hn
   rw [hs]
   simp only [Option.bind_some]
   split at h
   ·exact cy.2 ⟨n, h⟩
   ·exact h
 ·intro h
  obtain ⟨s, hs, h⟩ := Option.bind_eq_some_iff.1 h
  split at h
  ·rename_i e
   obtain ⟨n, hn⟩ := cy.1 h
   refine ⟨n + 1, ?_⟩
   simp only [dQ, hs, Option.bind_some, e]
   exact hn
  ·rename_i e
   refine ⟨1, ?_⟩
   simp only [dQ, hs, Option.bind_some]
   exact h
noncomputable def eK (P : Program) (G : List Nat) (call : bh) (ops : Array Oper) (draw : Bool) (A : List Value) (H : AH) : Option (List Value × AH) :=
 match draw with
 | true => kZ P G call ops A H
 | false => cz P G call ops ops.toList A H
noncomputable def aN (P : Program) (G : List Nat) (call : bh) : Code → List Value → AH → Option AR
 | .skip, A, H => some (.normal, A, H)
 | .label _, A, H => some (.normal, A, H)
 | .region _ ops draw, A, H => (eK P G call ops draw A H).map fun s => (.normal, s.1, s.2)
 | .seq x y, A, H => (aN P G call x A H).bind fun r => match r.1 with
  | .normal => aN P G call y r.2.1 r.2.2
  | _ => some r
 | .cond c x y, A, H => match eg A c with
  | .bool true => aN P G call x A H
  | .bool false => aN P G call y A H
  | _ => none
 | .block id x, A, H => (aN P G call x A H).map fun r => match r.1 with
  | .exit i => if i = id then (.normal, r.2.1, r.2.2) else r
  | _ => r
 | .loop x, A, H => od (aN P G call x) A H
 | .exit id, A, H => some (.exit id, A, H)
 | .ret, A, H => some (.ret, A, H)
 | _, _, _ => none
def AE.to : AE → Exit
 | .normal => .normal
 | .exit id => .exit id
 | .ret => .ret
section
variable {P : Program} {w0 : World} {B : Nat} {G : List Nat} {call : bh}
theorem zp.trans {ρ ρ1 : bv} {H H1 H2 : AH} {w w1 w2 : World} {A2 : List Value} {a2 : Act} (hR : Rel P w0 B ρ H w) (hE : gZ ρ H w ρ1 H1 w1) (h : zp P w0 B G ρ1 H1 w1 A2 H2 a2 w2) : zp P w0 B G ρ H w A2 H2 a2 w2 := by
 obtain ⟨ρ', h1, h2, h3, h4⟩ := h
 exact ⟨ρ', h1, h2, hE.trans hR h3, h4⟩
theorem zI (hcall : ku P G call) (hmono : fZ call) (hm : P.follows .mixedOrders = true) : ∀ (c : Code) {Q : Exit → Act → World → Prop} {ρ : bv} {A : List Value} {H : AH} {a : Act} {w : World} {e : AE} {A' : List Value} {H' : AH},
 aN P G call c A H = some (e, A', H') → bS P ρ A a → GlobRel ρ G → Rel P w0 B ρ H w → (∀ a' w', zp P w0 B G ρ H w A' H' a' w' → Q e.to a' w') → c.wp P Q a w := by
 intro c
 induction c with
 | skip =>
  intro Q ρ A H a w e A' H' h hA hG hR hQ
  simp only [aN] at h; cases h
  exact wp_skip (hQ a w ⟨ρ, hA, hG, gZ.refl _ _ _, hR⟩)
 | label l =>
  intro Q ρ A H a w e A' H' h hA hG hR hQ
  simp only [aN] at h; cases h
  exact wp_label (hQ a w ⟨ρ, hA, hG, gZ.refl _ _ _, hR⟩)
 | exit id =>
  intro Q ρ A H a w e A' H' h hA hG hR hQ
  simp only [aN] at h; cases h
  exact wp_exit (hQ a w ⟨ρ, hA, hG, gZ.refl _ _ _, hR⟩)
 | ret =>
  intro Q ρ A H a w e A' H' h hA hG hR hQ
  simp only [aN] at h; cases h
  exact wp_ret (hQ a w ⟨ρ, hA, hG, gZ.refl _ _ _, hR⟩)
 | region id ops draw =>
  intro Q ρ A H a w e A' H' h hA hG hR hQ
  simp only [aN] at h
  obtain ⟨⟨A1, H1⟩, hs, e1⟩ := Option.map_eq_some_iff.1 h
  cases e1
  cases draw with
  | true => exact Le hcall hmono hm hs hA hG hR hQ
  | false => exact J4 hcall hs hA hG hR hQ
 | seq x y ihx ihy =>
  intro Q ρ A H a w e A' H' h hA hG hR hQ
  simp only [aN] at h
  obtain ⟨⟨e1, A1, H1⟩, hx, h⟩ := Option.bind_eq_some_iff.1 h
  refine wp_seq (ihx hx hA hG hR (fun a1 w1 hp => ?_))
  cases e1 with
  | normal =>
   simp only at h
   obtain ⟨ρ1, hA1, hG1, hE1, hR1⟩ := hp
   exact ihy h hA1 hG1 hR1 (fun a' w' hp => hQ a' w' (hp.trans hR hE1))
  | exit id => simp only at h; cases h; exact hQ a1 w1 hp
  | ret => simp only at h; cases h; exact hQ a1 w1 hp
 | cond c x y ihx ihy =>
  intro Q ρ A H a w e A' H' h hA hG hR hQ
  simp only [aN] at h
  have hc : ∀ t, eg A c = .bool t → a.eval c = .bool t := by
   intro t ht
   cases c with
   | tmp u =>
    simp only [eg] at ht
    cases hx : A[u]? with
    | none => rw [hx] at ht; simp [undef] at ht
    | some x =>
     rw [hx] at ht
     simp only [Option.getD_some] at ht
     subst ht
     obtain ⟨y, hy, hv⟩ := hA.tmps.get hx
     rw [Array.getElem?_toList] at hy
     simp only [Act.eval, Array.getD_eq_getD_getElem?, hy, Option.getD_some]
     exact hv.bool_inv
   | const v => exact ht
   | global g => cases ht
   | func f => cases ht
  split at h
  ·rename_i ht; exact wp_cond (hc _ ht) (ihx h hA hG hR hQ)
  ·rename_i ht; exact wp_cond (hc _ ht) (ihy h hA hG hR hQ)
  ·cases h
 | block id x ih =>
  intro Q ρ A H a w e A' H' h hA hG hR hQ
  simp only [aN] at h
  obtain ⟨⟨e1, A1, H1⟩, hx, e2⟩ := Option.map_eq_some_iff.1 h
  refine wp_block (ih hx hA hG hR (fun a1 w1 hp => ?_))
  cases e1 with
  | normal => simp only at e2; cases e2; exact hQ a1 w1 hp
  | ret => simp only at e2; cases e2; exact hQ a1 w1 hp
  | exit i =>
   simp only at e2
   simp only [AE.to, Exit.inBlock]
   split at e2
   ·rename_i hi; cases e2; rw [if_pos hi]; exact hQ a1 w1 hp
   ·rename_i hi; cases e2; rw [if_neg hi]; exact hQ a1 w1 hp
 | loop x ih =>
  intro Q ρ A H a w e A' H' h hA hG hR hQ
  simp only [aN] at h
  obtain ⟨n, hn⟩ := cy.1 h
  refine wp_loop_rounds n ?_
  clear h
  induction n generalizing ρ A H a w with
  | zero => cases hn
  | succ n ihn =>
   simp only [dQ] at hn
   obtain ⟨⟨e1, A1, H1⟩, hx, h⟩ := Option.bind_eq_some_iff.1 hn
   rw [rounds_succ]
   refine ih hx hA hG hR (fun a1 w1 hp => ?_)
   cases e1 with
   | normal =>
    simp only at h
    obtain ⟨ρ1, hA1, hG1, hE1, hR1⟩ := hp
    exact ihn hA1 hG1 hR1 (fun a' w' hp => hQ a' w' (hp.trans hR hE1)) h
   | exit id => simp only at h; cases h; exact hQ a1 w1 hp
   | ret => simp only at h; cases h; exact hQ a1 w1 hp
 | rangeFunc f ps x y => intro Q ρ A H a w e A' H' h; simp [aN] at h
 | scope x => intro Q ρ A H a w e A' H' h; simp [aN] at h
 | goto l => intro Q ρ A H a w e A' H' h; simp [aN] at h
 | refuse s => intro Q ρ A H a w e A' H' h; simp [aN] at h
theorem qa (hm : fZ call) {ops : Array Oper} : ∀ (l : List Oper) {A : List Value} {H : AH} {r : List Value × AH}, cz P G call ops l A H = some r → H.size ≤ r.2.size := by
 intro l
 induction l with
 | nil => intro A H r h; simp only [cz] at h; cases h; exact Nat.le_refl _
 | cons o l ih =>
  intro A H r h
  simp only [cz] at h
  obtain ⟨s, hs, h⟩ := Option.bind_eq_some_iff.1 h
  refine Nat.le_trans ?_ (ih h)
  unfold e8 at hs
  split at hs
  ·split at hs
   ·obtain ⟨⟨v, H2⟩, hv, e⟩ := Option.map_eq_some_iff.1 hs
    cases e; exact HS hm hv
   ·cases hs; exact Nat.le_refl _
  ·cases hs
theorem zr (hm : fZ call) : ∀ (c : Code) {A : List Value} {H : AH} {r : AR}, aN P G call c A H = some r → H.size ≤ r.2.2.size := by
 intro c
 induction c with
 | skip => intro A H r h; simp only [aN] at h; cases h; exact Nat.le_refl _
 | label l => intro A H r h; simp only [aN] at h; cases h; exact Nat.le_refl _
 | exit id => intro A H r h; simp only [aN] at h; cases h; exact Nat.le_refl _
 | ret => intro A H r h; simp only [aN] at h; cases h; exact Nat.le_refl _
 | region id ops draw =>
  intro A H r h
  simp only [aN] at h
  obtain ⟨s, hs, e1⟩ := Option.map_eq_some_iff.1 h
  cases e1
  cases draw with
  | true => exact qa hm _ (e7 hs).2.2
  | false => exact qa hm _ hs
 | seq x y ihx ihy =>
  intro A H r h
  simp only [aN] at h
  obtain ⟨s, hx, h⟩ := Option.bind_eq_some_iff.1 h
  have h1 := ihx hx
  split at h
  ·exact Nat.le_trans h1 (ihy h)
  ·cases h; exact h1
 | cond c x y ihx ihy =>
  intro A H r h
  simp only [aN] at h
  split at h
  ·exact ihx h
  ·exact ihy h
  ·cases h
 | block id x ih =>
  intro A H r h
  simp only [aN] at h
  obtain ⟨s, hx, e2⟩ := Option.map_eq_some_iff.1 h
  have h1 := ih hx
  split at e2
  ·split at e2 <;> (subst e2; exact h1)
  ·subst e2; exact h1
 | loop x ih =>
  intro A H r h
  simp only [aN] at h
  obtain ⟨n, hn⟩ := cy.1 h
  clear h
  induction n generalizing A H with
  | zero => cases hn
  | succ n ihn =>
   simp only [dQ] at hn
   obtain ⟨s, hx, h⟩ := Option.bind_eq_some_iff.1 hn
   have h1 := ih hx
   split at h
   ·exact Nat.le_trans h1 (ihn h)
   ·cases h; exact h1
 | rangeFunc f ps x y => intro A H r h; simp [aN] at h
 | scope x => intro A H r h; simp [aN] at h
 | goto l => intro A H r h; simp [aN] at h
 | refuse s => intro A H r h; simp [aN] at h
end
def jX (P : Program) (A : List Value) (H : AH) : ResultVar → Option Value
 | .tmp t => some (A[t]?.getD undef)
 | .cell a t => (ed P t).bind fun g => match g with
  | some n => aD n (A[a]?.getD undef) H
  | none => aq (A[a]?.getD undef) H
def rj (P : Program) (A : List Value) (H : AH) : List ResultVar → Option (List Value)
 | [] => some []
 | r :: rs => (jX P A H r).bind fun v => (rj P A H rs).bind fun vs => some (v :: vs)
def g9 (P : Program) (A : List Value) (H : AH) (rs : List ResultVar) : Option Value := (rj P A H rs).map fun vs => match vs with
 | [v] => v
 | vs => .tuple vs.toArray
def Ws (P : Program) (rs : List ResultVar) (r : AR) : Option (Value × AH) :=
 match r.1 with
 | .exit _ => none
 | _ => (g9 P r.2.1 r.2.2 rs).map (·, r.2.2)
noncomputable def oc (P : Program) (G : List Nat) (call : bh) (n : Nat) (rs : List ResultVar) (c : Code) (args : List Value) (H : AH) : Option (Value × AH) :=
 (aN P G call c (args ++ List.replicate (n - args.length) undef) H).bind (Ws P rs)
structure DSh where
 c1 : Code
 id2 : Nat
 ops2 : Array Oper
 om : Oper
 df : Oper
 t : Nat
 k : Nat
 id3 : Nat
 ops3 : Array Oper
def jI : Code → Option DSh
 | .seq c1 (.seq (.region id2 ops2 false) (.seq (.region id3 ops3 false) .ret)) => match ops2.toList with
  | [mk, df] => match mk.dst, mk.op, mk.guard, df.dst, df.op, df.guard with
   | some t, .makeFunc (.func k) first _, none, none, .defer ⟨.value (.tmp t'), args, _⟩, none => if t = t' ∧ first = #[] ∧ args = #[] then some ⟨c1, id2, ops2, mk, df, t, k, id3, ops3⟩ else none
   | _, _, _, _, _, _ => none
  | _ => none
 | _ => none
theorem Ii {c : Code} {s : DSh} (h : jI c = some s) : c = .seq s.c1 (.seq (.region s.id2 s.ops2 false) (.seq (.region s.id3 s.ops3 false) .ret)) ∧ s.ops2.toList = [s.om, s.df] ∧ s.om.dst = some s.t ∧
 (∃ cap, s.om.op = .makeFunc (.func s.k) #[] cap) ∧ s.om.guard = none ∧ s.df.dst = none ∧ (∃ ats, s.df.op = .defer ⟨.value (.tmp s.t), #[], ats⟩) ∧ s.df.guard = none := by
 unfold jI at h
 split at h
 ·split at h
  ·rename_i hl
   split at h
   ·rename_i h1 h2 h3 h4 h5 h6
    split at h
    ·rename_i hc
     obtain ⟨rfl, rfl, rfl⟩ := hc
     cases h
     exact ⟨rfl, hl, h1, ⟨_, h2⟩, h3, h4, ⟨_, h5⟩, h6⟩
    ·cases h
   ·cases h
  ·cases h
 ·cases h
def s5 (P : Program) (k : Nat) : Prop :=
 (∃ fn, P.funcs[k]? = some fn ∧ fn.body.isSome = true ∧ fn.name ≠ "runtime.NumGoroutine") ∧
 ∀ (args : Array Value) (w : World), CallsD P k args .returning w fun e u' w' => (∃ v, e = .returned v) ∧ u' = .returning ∧ w' = w
noncomputable def nh (P : Program) (G : List Nat) (call : bh) (n : Nat) (rs : List ResultVar) (s : DSh) (args : List Value) (H : AH) : Option (Value × AH) :=
 (aN P G call s.c1 (args ++ List.replicate (n - args.length) undef) H).bind fun r => match r.1 with
  | .normal => if r.2.1.length ≤ s.t then none else (e8 P G call s.ops2 s.om r.2.1 r.2.2).bind fun q => (cz P G call s.ops3 s.ops3.toList q.1 q.2).bind fun z => (g9 P z.1 z.2 rs).map (·, z.2)
  | _ => none
noncomputable def d9 (P : Program) (G : List Nat) : Nat → bh
 | 0 => fun _ _ _ => none
 | d + 1 => fun f args H => match P.funcs[f]? with
  | some fn => if fn.name = "runtime.NumGoroutine" then none else match fn.body with
   | some c => match jI c with
    | none => oc P G (d9 P G d) fn.ntmps fn.results.toList c args H
    | some s => Id (s5 P s.k) (nh P G (d9 P G d) fn.ntmps fn.results.toList s args H)
   | none => none
  | none => none
section
variable {P : Program} {w0 : World} {B : Nat} {ρ : bv} {H : AH} {w : World} {G : List Nat} {call : bh}
theorem NV {A : List Value} {a : Act} (hA : bS P ρ A a) (hR : Rel P w0 B ρ H w) {r : ResultVar} {v : Value} (h : jX P A H r = some v) :
 ∃ v', (match r with | .tmp t => pure (a.tmps.getD t undef) | .cell x t => do loadVar t (← asAddr (a.tmps.getD x undef)) : Sem Value).run P w = .ok v' w ∧ VRel P ρ v v' := by
 have slot : ∀ t, VRel P ρ (A[t]?.getD undef) (a.tmps.getD t undef) := fun t => u9 (G := []) hA (fun g hg => by simp at hg) (x := .tmp t) rfl
 cases r with
 | tmp t => simp only [jX] at h; cases h; exact ⟨_, rfl, slot t⟩
 | cell x t =>
  simp only [jX] at h
  obtain ⟨g, hg, h⟩ := Option.bind_eq_some_iff.1 h
  cases g with
  | none =>
   obtain ⟨a', y', ha, hr, hv⟩ := Z8 hR h (slot x)
   refine ⟨y', ?_, hv⟩
   simp only [ha]
   simp [asAddr, loadVar, ni hg]
   simpa using hr
  | some n =>
   obtain ⟨a', ys, ha, hr, hv⟩ := Jr hR h (slot x)
   obtain ⟨hag, hsz⟩ := nj hg w
   refine ⟨.agg ys, ?_, hv⟩
   simp only [ha]
   simp [asAddr, loadVar, hag, cm hsz, hr]
theorem aaD {A : List Value} {a : Act} (hA : bS P ρ A a) (hR : Rel P w0 B ρ H w) : ∀ {rs : List ResultVar} {vs : List Value}, rj P A H rs = some vs →
 ∃ vs', (rs.mapM (fun r => (match r with | .tmp t => pure (a.tmps.getD t undef) | .cell x t => do loadVar t (← asAddr (a.tmps.getD x undef)) : Sem Value))).run P w = .ok vs' w ∧ LRel P ρ vs vs' := by
 intro rs
 induction rs with
 | nil => intro vs h; simp only [rj] at h; cases h; exact ⟨[], rfl, LRel.nil⟩
 | cons r rs ih =>
  intro vs h
  simp only [rj] at h
  obtain ⟨v, hv, h⟩ := Option.bind_eq_some_iff.1 h
  obtain ⟨vs0, hvs, h⟩ := Option.bind_eq_some_iff.1 h
  cases h
  obtain ⟨v', hr, hv'⟩ := NV hA hR hv
  obtain ⟨vs', hrs, hvs'⟩ := ih hvs
  refine ⟨v' :: vs', ?_, hvs'.cons hv'⟩
  rw [List.mapM_cons]
  simp only [Sem.run_bind, hr, Result.andThen_ok, hrs, Sem.run_pure]
theorem xo {A : List Value} {a : Act} (hA : bS P ρ A a) (hR : Rel P w0 B ρ H w) {fn : Func} {v : Value} (h : g9 P A H fn.results.toList = some v) :
 ∃ v', (results fn a.tmps).run P w = .ok v' w ∧ VRel P ρ v v' := by
 unfold g9 at h
 obtain ⟨vs, hvs, e⟩ := Option.map_eq_some_iff.1 h
 obtain ⟨vs', hrun, hl⟩ := aaD hA hR hvs
 have hm : ∀ g : ResultVar → Sem Value, (fn.results.mapM g).run P w = ((fn.results.toList.mapM g >>= fun l => pure l.toArray : Sem (Array Value))).run P w := by
  intro g
  rw [Array.mapM_eq_mapM_toList]
  rfl
 have h2 : (results fn a.tmps).run P w = .ok (if h : vs'.toArray.size = 1 then vs'.toArray[0] else .tuple vs'.toArray) w := by
  unfold results
  rw [Sem.run_bind, hm, Sem.run_bind]
  erw [hrun]
  rfl
 refine ⟨_, h2, ?_⟩
 have hlen := hl.1
 split at e
 ·rename_i x
  subst e
  match vs', hlen, hl with
  | [y], _, hl => simpa using hl.2 0 _ _ rfl rfl
 ·rename_i hne
  subst e
  have : ¬ vs'.toArray.size = 1 := by
   intro h1
   match vs, hlen, hne with
   | [x], _, hne => exact hne x rfl
   | [], hlen, _ => simp at hlen h1; omega
   | x :: y :: zs, hlen, _ => simp at hlen h1; omega
  rw [dif_neg this]
  exact .tuple (by simp [hlen]) (fun i x y hx hy => hl.2 i x y (by simpa using hx) (by simpa using hy))
theorem Ng (hcall : ku P G call) {ops : Array Oper} (ds : List Deferred) {Q : Exit → Act → World → Prop} : ∀ (l : List Oper) {ρ : bv} {A : List Value} {H : AH} {a : Act} {w : World} {A' : List Value} {H' : AH}, cz P G call ops l A H = some (A', H') →
 bS P ρ A a → GlobRel ρ G → Rel P w0 B ρ H w → (∀ a' w', zp P w0 B G ρ H w A' H' a' w' → Q .normal { a' with defers := ds } w') → wpList P ops Q l { a with defers := ds } w := by
 intro l
 induction l with
 | nil =>
  intro ρ A H a w A' H' h hA hG hR hQ
  simp only [cz] at h
  cases h
  exact hQ a w ⟨ρ, hA, hG, gZ.refl _ _ _, hR⟩
 | cons o rest ih =>
  intro ρ A H a w A' H' h hA hG hR hQ
  simp only [cz] at h
  obtain ⟨⟨A1, H1⟩, hs, h⟩ := Option.bind_eq_some_iff.1 h
  simp only at h
  unfold e8 at hs
  split at hs
  ·rename_i hok
   unfold wpList
   have hwr := sU hA ops o
   rw [show Region.wanted o (yielded ops ({ a with defers := ds } : Act).tmps) = Region.wanted o (cU ops A) from hwr]
   split at hs
   ·rename_i hw
    rw [if_pos hw]
    obtain ⟨⟨v, H2⟩, ho, e⟩ := Option.map_eq_some_iff.1 hs
    cases e
    have hr := t9 hcall hA hG hR hok ho
    refine .inl (dP.wp (a := { a with defers := ds }) (dP.congr hr rfl) (fun v' w' hv => ?_))
    obtain ⟨ρ', hv, hE, hR'⟩ := hv
    have := ih (a := a.put o.dst v') h (jo (hA.mono hE.le) o.dst hv) (hG.mono hE.le) hR' (fun a' w'' hp => hQ a' w'' (hp.trans hR hE))
    have e : ({ a.put o.dst v' with defers := ds } : Act) = ({ a with defers := ds } : Act).put o.dst v' := by cases o.dst <;> rfl
    rw [e] at this
    exact this
   ·rename_i hw
    rw [if_neg hw]
    cases hs
    have := ih (a := a.put o.dst undef) h (jo hA o.dst VRel.undef) hG hR hQ
    have e : ({ a.put o.dst undef with defers := ds } : Act) = ({ a with defers := ds } : Act).put o.dst undef := by cases o.dst <;> rfl
    rw [e] at this
    exact this
  ·cases hs
theorem Ih (hcall : ku P G call) (hmono : fZ call) (hm : P.follows .mixedOrders = true) {f : Nat} {fn : Func} {c : Code} {s : DSh} (hf : P.funcs[f]? = some fn) (hb : fn.body = some c) (hd : jI c = some s)
 {args : List Value} {args' : Array Value} {v : Value} {H' : AH} (h : Id (s5 P s.k) (nh P G call fn.ntmps fn.results.toList s args H) = some (v, H'))
 (hA : bS P ρ (args ++ List.replicate (fn.ntmps - args.length) undef) { tmps := args' ++ Array.replicate (fn.ntmps - args'.size) undef, defers := [] }) (hG : GlobRel ρ G) (hR : Rel P w0 B ρ H w) :
 Calls P f args' w fun e w' => ∃ v' ρ', e = .returned v' ∧ VRel P ρ' v v' ∧ gZ ρ H w ρ' H' w' ∧ Rel P w0 B ρ' H' w' := by
 obtain ⟨⟨⟨fk, hfk, hbk, hnk⟩, hcd⟩, h⟩ := mo h
 obtain ⟨hc, hl2, hdst, ⟨cap, hop⟩, hg, hdd, ⟨ats, hdo⟩, hdg⟩ := Ii hd
 unfold nh at h
 obtain ⟨⟨e1, A1, H1⟩, h1, h⟩ := Option.bind_eq_some_iff.1 h
 cases e1 with
 | exit i => cases h
 | ret => cases h
 | normal =>
  simp only at h
  split at h
  ·cases h
  rename_i hlt
  obtain ⟨⟨A2, H2⟩, h2, h⟩ := Option.bind_eq_some_iff.1 h
  obtain ⟨⟨A3, H3⟩, h3, h⟩ := Option.bind_eq_some_iff.1 h
  obtain ⟨x, hx, e⟩ := Option.map_eq_some_iff.1 h
  cases e
  refine calls_of_wp_defers hf hb ?_
  rw [hc]
  refine wp_seq (zI hcall hmono hm s.c1 h1 hA hG hR (fun a1 w1 hp => ?_))
  obtain ⟨ρ1, hA1, hG1, hE1, hR1⟩ := hp
  refine wp_seq (wp_region_list ?_)
  rw [hl2]
  have hd1 : a1.defers = [] := hA1.defers
  unfold e8 at h2
  split at h2
  ·rename_i hok
   have hwt : Region.wanted s.om (cU s.ops2 A1) = true := by simp [Region.wanted, hg]
   rw [if_pos hwt] at h2
   obtain ⟨⟨y, H2'⟩, ho, e⟩ := Option.map_eq_some_iff.1 h2
   cases e
   refine wpList_plain hg (fun K hK => dP.wp (t9 hcall hA1 hG1 hR1 hok ho) (fun v' w2 hv => hK _ _ ?_))
   obtain ⟨ρ2, hv, hE2, hR2⟩ := hv
   have hy : y = .func (.func s.k) #[] (cap.map (eg A1)) := by
    unfold dE at ho
    rw [hop] at ho
    simp at ho
    exact ho.1.symm
   rw [hy] at hv
   obtain ⟨f', c', rfl, hf', _⟩ := hv.func_inv
   have hf0 : f' = #[] := by
    have := hf'.1
    simp at this
    exact Array.eq_empty_of_size_eq_zero (by simpa using this.symm)
   subst hf0
   refine wpList_plain hdg (fun K' hK' => ?_)
   have ht : (a1.put s.om.dst (.func (.func s.k) #[] c')).eval (.tmp s.t) = .func (.func s.k) #[] c' := by
    have hsz : s.t < a1.tmps.size := by have := hA1.tmps.1; simp at this; omega
    rw [hdst]
    simp [Act.put, Act.eval, hsz, Array.getD]
   have hrun : (execOp (a1.put s.om.dst (.func (.func s.k) #[] c')).eval s.df).run P w2 = .ok (.defer { target := .fn (.func s.k) c', args := #[] }) w2 := by
    simp [execOp, hdo, resolve, ht, Deferred.ofValue]
   unfold Oper.wp
   rw [hrun, Oper.upon_defer]
   refine hK' _ _ (wpList_nil ?_)
   rw [hdd]
   have hA2 := jo (hA1.mono hE2.le) s.om.dst hv
   have hpd : ∀ (a : Act) (d : Option Tmp) (x : Value), (a.put d x).defers = a.defers := by intro a d x; cases d <;> rfl
   have e : ({ a1.put s.om.dst (.func (.func s.k) #[] c') with defers := { target := .fn (.func s.k) c', args := #[] } :: (a1.put s.om.dst (.func (.func s.k) #[] c')).defers } : Act).put none undef
    = { a1.put s.om.dst (.func (.func s.k) #[] c') with defers := [{ target := .fn (.func s.k) c', args := #[] }] } := by
    rw [hpd, hd1]; rfl
   rw [e]
   show (Code.seq (.region s.id3 s.ops3 false) .ret).wp P _ _ _
   rw [hy] at h3
   refine wp_seq (wp_region_list (Ng hcall _ _ h3 hA2 (hG1.mono hE2.le) hR2 (fun a3 w3 hp => ?_)))
   obtain ⟨ρ3, hA3, hG3, hE3, hR3⟩ := hp
   refine wp_ret ?_
   obtain ⟨v3, hr3, hv3⟩ := xo hA3 hR3 hx
   have hbn : ¬ (fk.body = none) := by intro hb; rw [hb] at hbk; cases hbk
   refine leaves_cons (f := s.k) (args := c') (by simp) (by simp [invoke, callFunc, hfk, hnk, hbn]) (CallsD.mono (hcd _ _) ?_)
   rintro e' u' w' ⟨⟨v0, rfl⟩, rfl, rfl⟩
   exact ⟨v3, hr3, v3, ρ3, rfl, hv3, hE1.trans hR (hE2.trans hR1 hE3), hR3⟩
  ·cases h2
theorem HQ (hm : fZ call) {n : Nat} {rs : List ResultVar} {s : DSh} {args : List Value} {v : Value} {H' : AH} (h : nh P G call n rs s args H = some (v, H')) : H.size ≤ H'.size := by
 unfold nh at h
 obtain ⟨⟨e1, A1, H1⟩, h1, h⟩ := Option.bind_eq_some_iff.1 h
 cases e1 with
 | exit i => cases h
 | ret => cases h
 | normal =>
  simp only at h
  split at h
  ·cases h
  obtain ⟨⟨A2, H2⟩, h2, h⟩ := Option.bind_eq_some_iff.1 h
  obtain ⟨⟨A3, H3⟩, h3, h⟩ := Option.bind_eq_some_iff.1 h
  obtain ⟨x, hx, e⟩ := Option.map_eq_some_iff.1 h
  cases e
  have g1 := zr hm _ h1
  have g2 : H1.size ≤ H2.size := qa (P := P) (G := G) (call := call) hm [s.om] (ops := s.ops2) (A := A1) (H := H1) (r := (A2, H2)) (by simp [cz, h2])
  have g3 := qa hm _ h3
  simp only at g1 g3
  exact Nat.le_trans g1 (Nat.le_trans g2 g3)
theorem zG (hm : P.follows .mixedOrders = true) : ∀ d, ku P G (d9 P G d) ∧ fZ (d9 P G d) := by
 intro d
 induction d with
 | zero => exact ⟨fun f args H v H' h => (by cases h), fun f args H v H' h => (by cases h)⟩
 | succ d ih =>
  constructor
  ·intro f args H v H' h
   simp only [d9] at h
   cases hf : P.funcs[f]? with
   | none => rw [hf] at h; cases h
   | some fn =>
    rw [hf] at h
    simp only at h
    split at h
    ·cases h
    ·rename_i hname
     cases hb : fn.body with
     | none => rw [hb] at h; cases h
     | some c =>
      rw [hb] at h
      simp only at h
      refine ⟨⟨fn, rfl, by rw [hb]; rfl, hname⟩, fun w0 B ρ w args' hR hG hargs => ?_⟩
      have hA : bS P ρ (args ++ List.replicate (fn.ntmps - args.length) undef) { tmps := args'.toArray ++ Array.replicate (fn.ntmps - args'.toArray.size) undef, defers := [] } := by
       refine ⟨?_, rfl⟩
       simp only [Array.toList_append, Array.toList_replicate, List.size_toArray]
       rw [hargs.1]
       refine hargs.append ⟨rfl, fun i x y hx hy => ?_⟩
       rw [hx] at hy
       cases hy
       rw [List.getElem?_replicate] at hx
       split at hx
       ·cases hx; exact VRel.undef
       ·cases hx
      cases hd : jI c with
      | some s => rw [hd] at h; exact Ih ih.1 ih.2 hm hf hb hd h hA hG hR
      | none =>
      rw [hd] at h
      simp only [oc] at h
      obtain ⟨⟨e, A', H2⟩, hc, h⟩ := Option.bind_eq_some_iff.1 h
      refine calls_of_wp hf hb ?_
      refine zI ih.1 ih.2 hm c hc hA hG hR (fun a' w' hp => ?_)
      obtain ⟨ρ', hA', hG', hE, hR'⟩ := hp
      have fin : ∀ {x : Value} {H3 : AH}, (g9 P A' H2 fn.results.toList).map (·, H2) = some (x, H3) → a'.defers = [] ∧ ∃ v', (results fn a'.tmps).run P w' = .ok v' w' ∧ ∃ v'' ρ'', Ending.returned v' = .returned v'' ∧ VRel P ρ'' x v'' ∧ gZ ρ H w ρ'' H3 w' ∧ Rel P w0 B ρ'' H3 w' := by
       intro x H3 hx
       obtain ⟨y, hy, e⟩ := Option.map_eq_some_iff.1 hx
       cases e
       obtain ⟨v', hr, hv⟩ := xo hA' hR' hy
       exact ⟨hA'.defers, v', hr, v', ρ', rfl, hv, hE, hR'⟩
      cases e with
      | normal => exact fin h
      | ret => exact fin h
      | exit i => cases h
  ·intro f args H v H' h
   simp only [d9] at h
   cases hf : P.funcs[f]? with
   | none => rw [hf] at h; cases h
   | some fn =>
    rw [hf] at h
    simp only at h
    split at h
    ·cases h
    ·cases hb : fn.body with
     | none => rw [hb] at h; cases h
     | some c =>
      rw [hb] at h
      simp only [oc] at h
      cases hd : jI c with
      | some s =>
       rw [hd] at h
       obtain ⟨_, h⟩ := mo h
       exact HQ ih.2 h
      | none =>
      rw [hd] at h
      simp only at h
      obtain ⟨⟨e, A', H2⟩, hc, h⟩ := Option.bind_eq_some_iff.1 h
      have h1 := zr ih.2 c hc
      unfold Ws at h
      split at h
      ·cases h
      ·obtain ⟨y, hy, e⟩ := Option.map_eq_some_iff.1 h
       cases e; exact h1
end
def Wo (c1 c2 : bh) : Prop := ∀ f args H r, c1 f args H = some r → c2 f args H = some r
section
variable {P : Program} {G : List Nat} {c1 c2 : bh}
theorem ah0 (h : Wo c1 c2) {ev : Operand → Value} {o : Oper} {H : AH} {r : Value × AH} (hr : dE P c1 ev o H = some r) : dE P c2 ev o H = some r := by
 obtain ⟨dst, op, type, pos, after, guard⟩ := o
 cases op with
 | call c =>
  obtain ⟨callee, args, ats⟩ := c
  cases callee with
  | value f =>
   simp only [dE] at hr ⊢
   obtain ⟨x, hx, hr⟩ := Option.bind_eq_some_iff.1 hr
   rw [hx]
   exact h _ _ _ _ hr
  | invoke r m => exact hr
  | builtin b => exact hr
 | makeMap t r => cases r <;> exact hr
 | slice t x lo hi mx => cases lo <;> cases hi <;> cases mx <;> exact hr
 | _ => exact hr
theorem zx (h : Wo c1 c2) {ops : Array Oper} {o : Oper} {A : List Value} {H : AH} {r : List Value × AH} (hr : e8 P G c1 ops o A H = some r) : e8 P G c2 ops o A H = some r := by
 unfold e8 at hr ⊢
 split at hr
 ·rename_i hok
  rw [if_pos hok]
  split at hr
  ·rename_i hw
   rw [if_pos hw]
   obtain ⟨x, hx, e⟩ := Option.map_eq_some_iff.1 hr
   rw [ah0 h hx]
   exact congrArg some e
  ·rename_i hw
   rw [if_neg hw]
   exact hr
 ·cases hr
theorem p9 (h : Wo c1 c2) {ops : Array Oper} : ∀ (l : List Oper) {A : List Value} {H : AH} {r : List Value × AH}, cz P G c1 ops l A H = some r → cz P G c2 ops l A H = some r := by
 intro l
 induction l with
 | nil => intro A H r hr; exact hr
 | cons o l ih =>
  intro A H r hr
  simp only [cz] at hr ⊢
  obtain ⟨s, hs, hr⟩ := Option.bind_eq_some_iff.1 hr
  rw [zx h hs]
  exact ih hr
theorem acX (h : Wo c1 c2) {ops : Array Oper} {A : List Value} {H : AH} {r : List Value × AH} (hr : cz P G c1 ops ops.toList A H = some r) : iM P G c2 ops A H = iM P G c1 ops A H := by
 funext i
 have h1 := p9 h _ (uR hr i)
 unfold iM at h1 ⊢
 rw [h1]; rfl
theorem Wr (h : Wo c1 c2) {ops : Array Oper} {A : List Value} {H : AH} {r : List Value × AH} (hr : kZ P G c1 ops A H = some r) : kZ P G c2 ops A H = some r := by
 obtain ⟨h1, h2, h3⟩ := e7 hr
 unfold kZ
 rw [h1]
 simp only
 cases h4 : db ops.toList with
 | nil => exact p9 h _ h3
 | cons p ps =>
  simp only
  rw [ju ?_]
  ·exact p9 h _ h3
  ·rw [acX h h3, ← h4]; exact h2
theorem mm (h : Wo c1 c2) : ∀ (c : Code) {A : List Value} {H : AH} {r : AR}, aN P G c1 c A H = some r → aN P G c2 c A H = some r := by
 intro c
 induction c with
 | region id ops draw =>
  intro A H r hr
  simp only [aN] at hr ⊢
  obtain ⟨s, hs, e1⟩ := Option.map_eq_some_iff.1 hr
  have : eK P G c2 ops draw A H = some s := by
   cases draw with
   | true => exact Wr h hs
   | false => exact p9 h _ hs
  rw [this]; exact congrArg some e1
 | seq x y ihx ihy =>
  intro A H r hr
  simp only [aN] at hr ⊢
  obtain ⟨s, hx, hr⟩ := Option.bind_eq_some_iff.1 hr
  rw [ihx hx]
  simp only [Option.bind_some]
  split at hr
  ·exact ihy hr
  ·exact hr
 | cond c x y ihx ihy =>
  intro A H r hr
  simp only [aN] at hr ⊢
  split at hr
  ·exact ihx hr
  ·exact ihy hr
  ·cases hr
 | block id x ih =>
  intro A H r hr
  simp only [aN] at hr ⊢
  obtain ⟨s, hx, e2⟩ := Option.map_eq_some_iff.1 hr
  rw [ih hx]; exact congrArg some e2
 | loop x ih =>
  intro A H r hr
  simp only [aN] at hr ⊢
  obtain ⟨n, hn⟩ := cy.1 hr
  refine cy.2 ⟨n, ?_⟩
  clear hr
  induction n generalizing A H with
  | zero => cases hn
  | succ n ihn =>
   simp only [dQ] at hn ⊢
   obtain ⟨s, hx, hr⟩ := Option.bind_eq_some_iff.1 hn
   rw [ih hx]
   simp only [Option.bind_some]
   split at hr
   ·exact ihn hr
   ·exact hr
 | _ => intro A H r hr; exact hr
theorem Wq (h : Wo c1 c2) {n : Nat} {rs : List ResultVar} {c : Code} {args : List Value} {H : AH} {r : Value × AH} (hr : oc P G c1 n rs c args H = some r) : oc P G c2 n rs c args H = some r := by
 unfold oc at hr ⊢
 obtain ⟨s, hs, hr⟩ := Option.bind_eq_some_iff.1 hr
 rw [mm h _ hs]
 exact hr
theorem Sj (h : Wo c1 c2) {n : Nat} {rs : List ResultVar} {s : DSh} {args : List Value} {H : AH} {r : Value × AH} (hr : nh P G c1 n rs s args H = some r) : nh P G c2 n rs s args H = some r := by
 unfold nh at hr ⊢
 obtain ⟨⟨e1, A1, H1⟩, h1, hr⟩ := Option.bind_eq_some_iff.1 hr
 rw [mm h _ h1]
 simp only [Option.bind_some]
 cases e1 with
 | exit i => exact hr
 | ret => exact hr
 | normal =>
  simp only at hr ⊢
  split at hr
  ·cases hr
  rename_i hlt
  rw [if_neg hlt]
  obtain ⟨q, h2, hr⟩ := Option.bind_eq_some_iff.1 hr
  obtain ⟨z, h3, hr⟩ := Option.bind_eq_some_iff.1 hr
  rw [zx h h2]
  simp only [Option.bind_some]
  rw [p9 h _ h3]
  exact hr
theorem KV : ∀ d, Wo (d9 P G d) (d9 P G (d + 1)) := by
 intro d
 induction d with
 | zero => intro f args H r h; cases h
 | succ d ih =>
  intro f args H r h
  rw [d9] at h ⊢
  simp only [] at h ⊢
  cases hf : P.funcs[f]? with
  | none => rw [hf] at h; cases h
  | some fn =>
   rw [hf] at h
   simp only at h ⊢
   split at h
   ·cases h
   ·rename_i hn
    rw [if_neg hn]
    cases hb : fn.body with
    | none => rw [hb] at h; cases h
    | some c =>
     rw [hb] at h
     simp only at h ⊢
     cases hd : jI c with
     | none => rw [hd] at h; exact Wq ih h
     | some s =>
      rw [hd] at h
      obtain ⟨h1, h2⟩ := mo h
      simp only
      rw [ju h1]
      exact Sj ih h2
theorem jr {d e : Nat} (h : d ≤ e) : Wo (d9 P G d) (d9 P G e) := by
 induction e with
 | zero => rw [show d = 0 from by omega]; exact fun _ _ _ _ h => h
 | succ e ih =>
  by_cases hd : d = e + 1
  ·rw [hd]; exact fun _ _ _ _ h => h
  ·exact fun f args H r hr => KV e f args H r (ih (by omega) f args H r hr)
open Classical in
noncomputable def aF (P : Program) (G : List Nat) : bh := fun f args H => if h : ∃ d r, d9 P G d f args H = some r then some h.choose_spec.choose else none
theorem zt {f : Nat} {args : List Value} {H : AH} {r : Value × AH} : aF P G f args H = some r ↔ ∃ d, d9 P G d f args H = some r := by
 unfold aF
 constructor
 ·intro h
  split at h
  ·rename_i hx
   cases h
   exact ⟨_, hx.choose_spec.choose_spec⟩
  ·cases h
 ·rintro ⟨n, hn⟩
  have hx : ∃ d r, d9 P G d f args H = some r := ⟨n, r, hn⟩
  rw [dif_pos hx]
  have h1 := jr (Nat.le_max_right n hx.choose) _ _ _ _ hx.choose_spec.choose_spec
  have h2 := jr (Nat.le_max_left n hx.choose) _ _ _ _ hn
  rw [h2] at h1
  exact h1.symm
theorem akA (hm : P.follows .mixedOrders = true) : ku P G (aF P G) ∧ fZ (aF P G) := by
 constructor
 ·intro f args H v H' h
  obtain ⟨d, hd⟩ := zt.1 h
  exact (zG hm d).1 f args H v H' hd
 ·intro f args H v H' h
  obtain ⟨d, hd⟩ := zt.1 h
  exact (zG hm d).2 f args H v H' hd
theorem aeA {ev : Operand → Value} {o : Oper} {H : AH} {r : Value × AH} (h : dE P (aF P G) ev o H = some r) : ∃ d, dE P (d9 P G d) ev o H = some r := by
 obtain ⟨dst, op, type, pos, after, guard⟩ := o
 cases op with
 | call c =>
  obtain ⟨callee, args, ats⟩ := c
  cases callee with
  | value f =>
   simp only [dE] at h ⊢
   obtain ⟨x, hx, h⟩ := Option.bind_eq_some_iff.1 h
   obtain ⟨d, hd⟩ := zt.1 h
   exact ⟨d, by rw [hx]; exact hd⟩
  | invoke r m => exact ⟨0, h⟩
  | builtin b => exact ⟨0, h⟩
 | makeMap t r => cases r <;> exact ⟨0, h⟩
 | slice t x lo hi mx => cases lo <;> cases hi <;> cases mx <;> exact ⟨0, h⟩
 | _ => exact ⟨0, h⟩
theorem HT {ops : Array Oper} : ∀ (l : List Oper) {A : List Value} {H : AH} {r : List Value × AH}, cz P G (aF P G) ops l A H = some r → ∃ d, cz P G (d9 P G d) ops l A H = some r := by
 intro l
 induction l with
 | nil => intro A H r hr; exact ⟨0, hr⟩
 | cons o l ih =>
  intro A H r hr
  simp only [cz] at hr ⊢
  obtain ⟨s, hs, hr⟩ := Option.bind_eq_some_iff.1 hr
  obtain ⟨d2, h2⟩ := ih hr
  have h1 : ∃ d, e8 P G (d9 P G d) ops o A H = some s := by
   unfold e8 at hs ⊢
   split at hs
   ·rename_i hok
    split at hs
    ·rename_i hw
     obtain ⟨x, hx, e⟩ := Option.map_eq_some_iff.1 hs
     obtain ⟨d, hd⟩ := aeA hx
     exact ⟨d, by rw [if_pos hok, if_pos hw, hd]; exact congrArg some e⟩
    ·rename_i hw
     exact ⟨0, by rw [if_pos hok, if_neg hw]; exact hs⟩
   ·cases hs
  obtain ⟨d1, h1⟩ := h1
  refine ⟨max d1 d2, ?_⟩
  rw [zx (jr (Nat.le_max_left ..)) h1]
  exact p9 (jr (Nat.le_max_right ..)) _ h2
theorem OZ (d : Nat) : Wo (d9 P G d) (aF P G) := fun _ _ _ _ h => zt.2 ⟨d, h⟩
theorem HU {ops : Array Oper} {draw : Bool} {A : List Value} {H : AH} {r : List Value × AH} (h : eK P G (aF P G) ops draw A H = some r) : ∃ d, eK P G (d9 P G d) ops draw A H = some r := by
 cases draw with
 | false => exact HT _ h
 | true =>
  simp only [eK] at h ⊢
  obtain ⟨h1, h2, h3⟩ := e7 h
  obtain ⟨d, hd⟩ := HT _ h3
  refine ⟨d, ?_⟩
  unfold kZ
  rw [h1]
  simp only
  cases h4 : db ops.toList with
  | nil => exact hd
  | cons p ps =>
   simp only
   rw [ju ?_]
   ·exact hd
   ·rw [← acX (OZ d) hd, ← h4]; exact h2
theorem Si : ∀ (c : Code) {A : List Value} {H : AH} {r : AR}, aN P G (aF P G) c A H = some r → ∃ d, aN P G (d9 P G d) c A H = some r := by
 intro c
 induction c with
 | region id ops draw =>
  intro A H r hr
  simp only [aN] at hr ⊢
  obtain ⟨s, hs, e1⟩ := Option.map_eq_some_iff.1 hr
  obtain ⟨d, hd⟩ := HU hs
  exact ⟨d, by rw [hd]; exact congrArg some e1⟩
 | seq x y ihx ihy =>
  intro A H r hr
  simp only [aN] at hr ⊢
  obtain ⟨s, hx, hr⟩ := Option.bind_eq_some_iff.1 hr
  obtain ⟨d1, h1⟩ := ihx hx
  split at hr
  ·rename_i e
   obtain ⟨d2, h2⟩ := ihy hr
   refine ⟨max d1 d2, ?_⟩
   rw [mm (jr (Nat.le_max_left ..)) _ h1]
   simp only [Option.bind_some, e]
   exact mm (jr (Nat.le_max_right ..)) _ h2
  ·refine ⟨d1, ?_⟩
   rw [h1]
   simp only [Option.bind_some]
   exact hr
 | cond c x y ihx ihy =>
  intro A H r hr
  simp only [aN] at hr ⊢
  split at hr
  ·exact ihx hr
  ·exact ihy hr
  ·cases hr
 | block id x ih =>
  intro A H r hr
  simp only [aN] at hr ⊢
  obtain ⟨s, hx, e2⟩ := Option.map_eq_some_iff.1 hr
  obtain ⟨d, hd⟩ := ih hx
  exact ⟨d, by rw [hd]; exact congrArg some e2⟩
 | loop x ih =>
  intro A H r hr
  simp only [aN] at hr ⊢
  obtain ⟨n, hn⟩ := cy.1 hr
  have key : ∃ d, dQ (aN P G (d9 P G d) x) n A H = some r := by
   clear hr
   induction n generalizing A H with
   | zero => cases hn
   | succ n ihn =>
    simp only [dQ] at hn ⊢
    obtain ⟨s, hx, hr⟩ := Option.bind_eq_some_iff.1 hn
    obtain ⟨d1, h1⟩ := ih hx
    split at hr
    ·rename_i e
     obtain ⟨d2, h2⟩ := ihn hr
     refine ⟨max d1 d2, ?_⟩
     rw [mm (jr (Nat.le_max_left ..)) _ h1]
     simp only [Option.bind_some, e]
     have key2 : ∀ (n : Nat) {A : List Value} {H : AH} {r : AR}, dQ (aN P G (d9 P G d2) x) n A H = some r → dQ (aN P G (d9 P G (max d1 d2)) x) n A H = some r := by
      intro n
      induction n with
      | zero => intro A H r h; cases h
      | succ n ih2 =>
       intro A H r h
       simp only [dQ] at h ⊢
       obtain ⟨s, hx, hr⟩ := Option.bind_eq_some_iff.1 h
       rw [mm (jr (Nat.le_max_right d1 d2)) _ hx]
       simp only [Option.bind_some]
       split at hr
       ·exact ih2 hr
       ·exact hr
     exact key2 n h2
    ·refine ⟨d1, ?_⟩
     rw [h1]
     simp only [Option.bind_some]
     exact hr
  obtain ⟨d, hd⟩ := key
  exact ⟨d, cy.2 ⟨n, hd⟩⟩
 | _ => intro A H r hr; exact ⟨0, hr⟩
theorem aj9 {f : Nat} {fn : Func} {c : Code} (hf : P.funcs[f]? = some fn) (hb : fn.body = some c) (hn : fn.name ≠ "runtime.NumGoroutine") (hds : jI c = none) {args : List Value} {H : AH} {r : Value × AH}
 (h : oc P G (aF P G) fn.ntmps fn.results.toList c args H = some r) : aF P G f args H = some r := by
 unfold oc at h
 obtain ⟨s, hs, h⟩ := Option.bind_eq_some_iff.1 h
 obtain ⟨d, hd⟩ := Si _ hs
 refine zt.2 ⟨d + 1, ?_⟩
 simp only [d9, hf, hb, if_neg hn, hds, oc, hd, Option.bind_some]
 exact h
end
section
variable {R : Type}
abbrev tb {α β : Type} (x : Option α) (f : α → Option β) : Option β :=
 match x with
 | some a => f a
 | none => none
theorem Kz {α β : Type} (x : Option α) (f : α → Option β) : tb x f = x.bind f := by cases x <;> rfl
abbrev fv (P : Program) (b : Builtin) (argTypes : Array TypeId) (args : List Value) (H : AH) (k : Value → AH → Option R) : Option R :=
 match b, args with
 | .len, [x] => match (argTypes[0]?).bind fun t => P.underlying t with
  | some (.slice _) => match x with | .slice _ n _ => k (.int .i64 n) H | _ => none
  | some .string => match x with | .string s => k (.int .i64 s.size) H | _ => none
  | some (.map _ _) => (lJ x H).bind fun v => k v H
  | _ => none
 | .max, args => (gL args).bind fun v => k v H
 | .min, args => (iJ args).bind fun v => k v H
 | .append, [s, x] => (argTypes[0]?).bind fun t => (bY P t).bind fun el => (b8 P el).bind fun e => (eA P el).bind fun by' => (bC P el).bind fun z =>
  if z.cells.size = e ∧ (argTypes[1]?).bind (fun u => bY P u) = some el then (dq e by' s x H).bind fun r => k r.1 r.2 else none
 | .delete, [m, key] => (argTypes[0]?).bind fun t => (b4 P t).bind fun kt => (ch P kt.1).bind fun fl => (lH fl m key H).bind fun H' => k (.tuple #[]) H'
 | _, _ => none
abbrev oE (P : Program) (call : bh) (ev : Operand → Value) (o : Oper) (H : AH) (k : Value → AH → Option R) : Option R :=
 match o.op with
 | .move x => k (ev x) H
 | .assign x => k (ev x) H
 | .pick c a b => (aQ (ev c) (ev a) (ev b)).bind fun v => k v H
 | .alloc t => (bC P t).bind fun z => k (.pointer (some ⟨H.size, 0, none⟩)) (H.push (.cells false z.cells.toList))
 | .box _ x => k (.pointer (some ⟨H.size, 0, none⟩)) (H.push (.cells false (ev x).cells.toList))
 | .build t parts => match P.underlying t with
  | some (.struct fs) => (bC P t).bind fun z => (iB P fs.toList).bind fun ps => (cC (ps[·]?) z.cells.toList (parts.toList.map fun p => (p.1, ev p.2))).bind fun cs => k (.agg cs.toArray) H
  | some (.array _ el) => (bC P t).bind fun z => (b8 P el).bind fun e => (cC (fun i => some (i * e, e)) z.cells.toList (parts.toList.map fun p => (p.1, ev p.2))).bind fun cs => k (.agg cs.toArray) H
  | _ => none
 | .buildSlice t len parts => (bY P t).bind fun el => (b8 P el).bind fun e => (bC P el).bind fun z =>
  if 0 < e ∧ z.cells.size = e ∧ len * e ≤ 2 ^ 24 then
   (cC (fun i => some (i * e, e)) (List.replicate len z.cells.toList).flatten (parts.toList.map fun p => (p.1, ev p.2))).bind fun cs => k (.slice (some ⟨H.size, 0, none⟩) len e) (H.push (.cells false cs))
  else none
 | .load t a => (ed P t).bind fun g => match g with
  | some n => (aD n (ev a) H).bind fun v => k v H
  | none => (aq (ev a) H).bind fun v => k v H
 | .store t a x => (b8 P t).bind fun n => (dn n (ev a) (ev x) H).bind fun H' => k undef H'
 | .nilCheck x => (ss (ev x)).bind fun v => k v H
 | .binOp op t x y _ => (ai (wI P t) op (ev x) (ev y)).bind fun v => k v H
 | .unOp op _ x => (ot op (ev x)).bind fun v => k v H
 | .convert src dst x => match P.underlying src with
  | some _ => (bJ (pp P dst) (ev x)).bind fun v => k v H
  | none => none
 | .makeFunc fn first captured => k (.func fn (first.map ev) (captured.map ev)) H
 | .makeMap _ none => k (.map (some H.size)) (H.push (.map [] 0))
 | .makeSlice t l c => (bY P t).bind fun el => (b8 P el).bind fun e => (eA P el).bind fun by' => (bC P el).bind fun z => (kQ z.cells.toList e by' (ev l) (ev c) H).bind fun r => k r.1 r.2
 | .slice t x lo hi none => (bY P t).bind fun el => (b8 P el).bind fun e => (d5 e (ev x) (lo.map ev) (hi.map ev)).bind fun v => k v H
 | .slice t x none (some hi) (some mx) => (bY P t).bind fun el => (b8 P el).bind fun _ => (iA (ev x) (ev hi) (ev mx)).bind fun v => k v H
 | .fieldAddr s x f => (ji P s f).bind fun f => (b8 P f.type).bind fun n => if n = 0 then none else (C3 f.offset (ev x)).bind fun v => k v H
 | .field s x f => (ji P s f).bind fun f => (ed P f.type).bind fun n => (jU n f.offset (ev x)).bind fun v => k v H
 | .indexAddr t x i => match P.underlying t with
  | some (.slice el) => (b8 P el).bind fun e => (mY e (ev x) (ev i)).bind fun v => k v H
  | some (.array len el) => (b8 P el).bind fun e => (gX len e (ev x) (ev i)).bind fun v => k v H
  | _ => none
 | .index t x i => match P.underlying t with
  | some (.array len el) => (b8 P el).bind fun e => (ed P el).bind fun n => (iz len n e (ev x) (ev i)).bind fun v => k v H
  | some .string => (iy (ev x) (ev i)).bind fun v => k v H
  | _ => none
 | .lookup t m key ok => (b4 P t).bind fun kt => (ch P kt.1).bind fun fl => (bC P kt.2).bind fun z => (ci fl z (ev m) (ev key) ok H).bind fun v => k v H
 | .mapUpdate t m key x => (b4 P t).bind fun kt => (ch P kt.1).bind fun fl => (dD fl (ev m) (ev key) (ev x) H).bind fun H' => k undef H'
 | .extract t i => (aj (ev t) i).bind fun v => k v H
 | .call c => match c.callee with
  | .builtin b => fv P b c.argTypes (c.args.toList.map ev) H k
  | .value f => (bM (ev f) (c.args.toList.map ev)).bind fun fa => (call fa.1 fa.2 H).bind fun r => k r.1 r.2
  | _ => none
 | _ => none
abbrev zF (P : Program) (b : Builtin) (argTypes : Array TypeId) (args : List Value) (H : AH) (k : Value → AH → Option R) : Option R :=
 match b, args with
 | .len, [x] => match (argTypes[0]?).bind fun t => P.underlying t with
  | some (.slice _) => match x with | .slice _ n _ => k (.int .i64 n) H | _ => none
  | some .string => match x with | .string s => k (.int .i64 s.size) H | _ => none
  | some (.map _ _) => (lJ x H).bind fun v => k v H
  | _ => none
 | .max, args => (gL args).bind fun v => k v H
 | .min, args => (iJ args).bind fun v => k v H
 | .append, [s, x] => tb (argTypes[0]?) fun t => tb (bY P t) fun el => tb (b8 P el) fun e => tb (eA P el) fun by' => tb (bC P el) fun z =>
  if z.cells.size = e ∧ (argTypes[1]?).bind (fun u => bY P u) = some el then (dq e by' s x H).bind fun r => k r.1 r.2 else none
 | .delete, [m, key] => tb (argTypes[0]?) fun t => tb (b4 P t) fun kt => tb (ch P kt.1) fun fl => (lH fl m key H).bind fun H' => k (.tuple #[]) H'
 | _, _ => none
abbrev cOp (P : Program) (call : bh) (ev : Operand → Value) (o : Oper) (H : AH) (k : Value → AH → Option R) : Option R :=
 match o.op with
 | .move x => k (ev x) H
 | .assign x => k (ev x) H
 | .pick c a b => (aQ (ev c) (ev a) (ev b)).bind fun v => k v H
 | .alloc t => tb (bC P t) fun z => k (.pointer (some ⟨H.size, 0, none⟩)) (H.push (.cells false z.cells.toList))
 | .box _ x => k (.pointer (some ⟨H.size, 0, none⟩)) (H.push (.cells false (ev x).cells.toList))
 | .build t parts => match P.underlying t with
  | some (.struct fs) => tb (bC P t) fun z => tb (iB P fs.toList) fun ps => (cC (ps[·]?) z.cells.toList (parts.toList.map fun p => (p.1, ev p.2))).bind fun cs => k (.agg cs.toArray) H
  | some (.array _ el) => tb (bC P t) fun z => tb (b8 P el) fun e => (cC (fun i => some (i * e, e)) z.cells.toList (parts.toList.map fun p => (p.1, ev p.2))).bind fun cs => k (.agg cs.toArray) H
  | _ => none
 | .buildSlice t len parts => tb (bY P t) fun el => tb (b8 P el) fun e => tb (bC P el) fun z =>
  if 0 < e ∧ z.cells.size = e ∧ len * e ≤ 2 ^ 24 then
   (cC (fun i => some (i * e, e)) (List.replicate len z.cells.toList).flatten (parts.toList.map fun p => (p.1, ev p.2))).bind fun cs => k (.slice (some ⟨H.size, 0, none⟩) len e) (H.push (.cells false cs))
  else none
 | .load t a => tb (ed P t) fun g => match g with
  | some n => (aD n (ev a) H).bind fun v => k v H
  | none => (aq (ev a) H).bind fun v => k v H
 | .store t a x => tb (b8 P t) fun n => (dn n (ev a) (ev x) H).bind fun H' => k undef H'
 | .nilCheck x => (ss (ev x)).bind fun v => k v H
 | .binOp op t x y _ => (ai (wI P t) op (ev x) (ev y)).bind fun v => k v H
 | .unOp op _ x => (ot op (ev x)).bind fun v => k v H
 | .convert src dst x => match P.underlying src with
  | some _ => (bJ (pp P dst) (ev x)).bind fun v => k v H
  | none => none
 | .makeFunc fn first captured => k (.func fn (first.map ev) (captured.map ev)) H
 | .makeMap _ none => k (.map (some H.size)) (H.push (.map [] 0))
 | .makeSlice t l c => tb (bY P t) fun el => tb (b8 P el) fun e => tb (eA P el) fun by' => tb (bC P el) fun z => (kQ z.cells.toList e by' (ev l) (ev c) H).bind fun r => k r.1 r.2
 | .slice t x lo hi none => tb (bY P t) fun el => tb (b8 P el) fun e => (d5 e (ev x) (lo.map ev) (hi.map ev)).bind fun v => k v H
 | .slice t x none (some hi) (some mx) => tb (bY P t) fun el => tb (b8 P el) fun _ => (iA (ev x) (ev hi) (ev mx)).bind fun v => k v H
 | .fieldAddr s x f => tb (ji P s f) fun f => tb (b8 P f.type) fun n => if n = 0 then none else (C3 f.offset (ev x)).bind fun v => k v H
 | .field s x f => tb (ji P s f) fun f => tb (ed P f.type) fun n => (jU n f.offset (ev x)).bind fun v => k v H
 | .indexAddr t x i => match P.underlying t with
  | some (.slice el) => tb (b8 P el) fun e => (mY e (ev x) (ev i)).bind fun v => k v H
  | some (.array len el) => tb (b8 P el) fun e => (gX len e (ev x) (ev i)).bind fun v => k v H
  | _ => none
 | .index t x i => match P.underlying t with
  | some (.array len el) => tb (b8 P el) fun e => tb (ed P el) fun n => (iz len n e (ev x) (ev i)).bind fun v => k v H
  | some .string => (iy (ev x) (ev i)).bind fun v => k v H
  | _ => none
 | .lookup t m key ok => tb (b4 P t) fun kt => tb (ch P kt.1) fun fl => tb (bC P kt.2) fun z => (ci fl z (ev m) (ev key) ok H).bind fun v => k v H
 | .mapUpdate t m key x => tb (b4 P t) fun kt => tb (ch P kt.1) fun fl => (dD fl (ev m) (ev key) (ev x) H).bind fun H' => k undef H'
 | .extract t i => (aj (ev t) i).bind fun v => k v H
 | .call c => match c.callee with
  | .builtin b => zF P b c.argTypes (c.args.toList.map ev) H k
  | .value f => (bM (ev f) (c.args.toList.map ev)).bind fun fa => (call fa.1 fa.2 H).bind fun r => k r.1 r.2
  | _ => none
 | _ => none
theorem ff {α β γ : Type} (x : Option α) (b : β) (k : α → β → Option γ) : ((x.map (·, b)).bind fun r => k r.1 r.2) = x.bind fun v => k v b := by cases x <;> rfl
theorem vF {β γ : Type} (x : Option β) (v : Value) (k : Value → β → Option γ) : ((x.map fun H' => (v, H')).bind fun r => k r.1 r.2) = x.bind fun H' => k v H' := by cases x <;> rfl
theorem EX (P : Program) (b : Builtin) (ts : Array TypeId) (args : List Value) (H : AH) (k : Value → AH → Option R) : fv P b ts args H k = (cg P b ts args H).bind fun r => k r.1 r.2 := by
 cases b with
 | len =>
  match args with
  | [] => rfl
  | [x] =>
   simp only [fv, cg]
   cases (ts[0]?).bind fun t => P.underlying t with
   | none => rfl
   | some d => cases d <;> first | rfl | (cases x <;> rfl) | (simp only [ff])
  | x :: y :: zs => rfl
 | max => simp only [fv, cg, ff]
 | min => simp only [fv, cg, ff]
 | append =>
  match args with
  | [] => rfl
  | [x] => rfl
  | [s, x] =>
   simp only [fv, cg, Option.bind_assoc]
   congr 1; funext t; congr 1; funext el; congr 1; funext e; congr 1; funext b; congr 1; funext z
   split
   ·rfl
   ·rfl
  | x :: y :: z :: zs => rfl
 | delete =>
  match args with
  | [] => rfl
  | [x] => rfl
  | [s, x] => simp only [fv, cg, Option.bind_assoc, vF]
  | x :: y :: z :: zs => rfl
 | _ => rfl
theorem aeG (P : Program) (call : bh) (ev : Operand → Value) (o : Oper) (H : AH) (k : Value → AH → Option R) : oE P call ev o H k = (dE P call ev o H).bind fun r => k r.1 r.2 := by
 obtain ⟨dst, op, type, pos, after, guard⟩ := o
 cases op with
 | call c =>
  obtain ⟨callee, args, ats⟩ := c
  cases callee with
  | value f => simp only [oE, dE, Option.bind_assoc]
  | invoke r m => rfl
  | builtin b => simp only [oE, dE]; exact EX ..
 | makeMap t r => cases r <;> rfl
 | slice t x lo hi mx =>
  cases mx with
  | none => simp only [oE, dE, Option.bind_assoc, ff]
  | some m => cases lo <;> cases hi <;> first | rfl | (simp only [oE, dE, Option.bind_assoc, ff])
 | load t a =>
  simp only [oE, dE, Option.bind_assoc]
  congr 1
  funext g
  cases g <;> simp only [ff]
 | build t parts =>
  simp only [oE, dE]
  cases P.underlying t with
  | none => rfl
  | some d => cases d <;> first | rfl | (simp only [Option.bind_assoc, Option.bind_map]; rfl)
 | buildSlice t len parts =>
  simp only [oE, dE, Option.bind_assoc]
  congr 1; funext el; congr 1; funext e; congr 1; funext z
  split
  ·rw [Option.bind_map]; rfl
  ·rfl
 | fieldAddr s x f =>
  simp only [oE, dE, Option.bind_assoc]
  congr 1; funext el; congr 1; funext e
  split
  ·rfl
  ·rw [ff]
 | alloc t => simp only [oE, dE, Option.bind_map]; rfl
 | indexAddr t x i =>
  simp only [oE, dE]
  cases P.underlying t with
  | none => rfl
  | some d => cases d <;> first | rfl | (simp only [Option.bind_assoc, ff])
 | index t x i =>
  simp only [oE, dE]
  cases P.underlying t with
  | none => rfl
  | some d => cases d <;> first | rfl | (simp only [Option.bind_assoc, ff])
 | convert s d x =>
  simp only [oE, dE]
  cases P.underlying s with
  | none => rfl
  | some d => simp only [ff]
 | store t x y => simp only [oE, dE, Option.bind_assoc, vF]
 | mapUpdate t m key x => simp only [oE, dE, Option.bind_assoc, vF]
 | _ => first | rfl | (simp only [oE, dE, Option.bind_assoc, ff]; done)
theorem K9 (P : Program) (b : Builtin) (ts : Array TypeId) (args : List Value) (H : AH) (k : Value → AH → Option R) : zF P b ts args H k = fv P b ts args H k := by
 unfold zF fv
 simp only [Kz]
theorem akF (P : Program) (call : bh) (ev : Operand → Value) (o : Oper) (H : AH) (k : Value → AH → Option R) : cOp P call ev o H k = oE P call ev o H k := by
 unfold cOp oE
 simp only [Kz, K9]
theorem WD (P : Program) (call : bh) (ev : Operand → Value) (o : Oper) (H : AH) (k : Value → AH → Option R) : cOp P call ev o H k = (dE P call ev o H).bind fun r => k r.1 r.2 := (akF ..).trans (aeG ..)
def Gw (op : Op) : Bool := jG op == 0 || jG op == 2
theorem Uw {P : Program} {call : bh} {ev : Operand → Value} {o : Oper} {H : AH} (h : Gw o.op = true) : dE P call ev o H = (cOp P call ev o H fun v _ => some v).map (·, H) := by
 rw [WD]
 cases hx : dE P call ev o H with
 | none => rfl
 | some r =>
  obtain ⟨v, H'⟩ := r
  simp only [Option.bind_some, Option.map_some]
  unfold Gw at h
  simp only [Bool.or_eq_true, beq_iff_eq] at h
  rcases h with h | h
  ·rw [(s7 h hx).1]
  ·rw [zv h] at hx
   obtain ⟨y, _, e⟩ := Option.map_eq_some_iff.1 hx
   rw [(Prod.mk.inj e).2]
abbrev O6 (P : Program) (G : List Nat) (call : bh) (ops : Array Oper) (o : Oper) (A : List Value) (H : AH) (k : List Value → AH → Option R) : Option R :=
 match o.op.operands.toList.all (KQ G) with
 | true => match o.guard with
  | none => cOp P call (eg A) o H fun v H' => k (jW A o.dst v) H'
  | some g => match Gw o.op with
   | true => (match cU ops A g.1 == some g.2 with
    | true => cOp P call (eg A) o H fun v _ => some v
    | false => some undef).bind fun v => k (jW A o.dst v) H
   | false => (match cU ops A g.1 == some g.2 with
    | true => dE P call (eg A) o H
    | false => some (undef, H)).bind fun r => k (jW A o.dst r.1) r.2
 | false => none
theorem Ic (P : Program) (G : List Nat) (call : bh) (ops : Array Oper) (o : Oper) (A : List Value) (H : AH) (k : List Value → AH → Option R) : O6 P G call ops o A H k = (e8 P G call ops o A H).bind fun s => k s.1 s.2 := by
 unfold O6 e8
 cases o.op.operands.toList.all (KQ G) with
 | false => rfl
 | true =>
  simp only [if_true]
  unfold Region.wanted
  cases o.guard with
  | none =>
   simp only [if_true]
   rw [WD, Option.bind_map]; rfl
  | some g =>
   obtain ⟨g, want⟩ := g
   simp only
   cases hl : Gw o.op with
   | true =>
    simp only
    by_cases h : (cU ops A g == some want) = true
    ·rw [if_pos h, h, Uw hl]
     simp only
     cases (cOp P call (eg A) o H fun v _ => some v) <;> rfl
    ·rw [if_neg h, Bool.eq_false_iff.2 h]; rfl
   | false =>
    simp only
    by_cases h : (cU ops A g == some want) = true
    ·rw [if_pos h, h, Option.bind_map]; rfl
    ·rw [if_neg h, Bool.eq_false_iff.2 h]; rfl
abbrev WE (P : Program) (G : List Nat) (call : bh) (ops : Array Oper) : List Oper → List Value → AH → (List Value → AH → Option R) → Option R
 | [], A, H, k => k A H
 | o :: rest, A, H, k => O6 P G call ops o A H fun A' H' => WE P G call ops rest A' H' k
theorem O5 (P : Program) (G : List Nat) (call : bh) (ops : Array Oper) : ∀ (l : List Oper) (A : List Value) (H : AH) (k : List Value → AH → Option R), WE P G call ops l A H k = (cz P G call ops l A H).bind fun s => k s.1 s.2 := by
 intro l
 induction l with
 | nil => intro A H k; rfl
 | cons o l ih =>
  intro A H k
  simp only [WE, cz]
  rw [Ic, Option.bind_assoc]
  congr 1
  funext s
  exact ih _ _ _
noncomputable def bD {R : Type} (x y : Option Value) (k : Option R) : Option R := Id (x = y) k
theorem aiE {R : Type} {x y : Option Value} (h : x = y) (k : Option R) : bD x y k = k := ju h k
noncomputable abbrev SC {R : Type} (j : Nat) (hist : List ((AH → Option Value) × AH)) (rd : AH → Option Value) (H H' : AH) (k : Option R) : List (Nat × Nat) → Option R
 | [] => k
 | pq :: rest => match pq.1 == j with
  | true => match Nat.blt pq.2 j with
   | true => match hist[pq.2]? with
    | some h => bD (rd h.2) (rd H) (SC j hist rd H H' k rest)
    | none => none
   | false => SC j hist rd H H' k rest
  | false => match pq.2 == j with
   | true => match Nat.blt pq.1 j with
    | true => match hist[pq.1]? with
     | some h => bD (h.1 H') (h.1 h.2) (SC j hist rd H H' k rest)
     | none => none
    | false => SC j hist rd H H' k rest
   | false => SC j hist rd H H' k rest
theorem Ie {α β : Type} (p : Prop) (x : Option α) (k : α → Option β) : (Id p x).bind k = Id p (x.bind k) := by unfold Id; split <;> rfl
theorem WL {α β : Type} {j : Nat} {hist : List ((AH → Option Value) × AH)} {rd : AH → Option Value} {H H' : AH} (x : Option α) (k : α → Option β) : ∀ l, (SC j hist rd H H' x l).bind k = SC j hist rd H H' (x.bind k) l := by
 intro l
 induction l with
 | nil => rfl
 | cons p l ih =>
  simp only [SC]
  cases p.1 == j with
  | true =>
   cases Nat.blt p.2 j with
   | true =>
    simp only
    cases hist[p.2]? with
    | none => rfl
    | some h => simp only [bD]; rw [Ie, ih]
   | false => exact ih
  | false =>
   cases p.2 == j with
   | true =>
    cases Nat.blt p.1 j with
    | true =>
     simp only
     cases hist[p.1]? with
     | none => rfl
     | some h => simp only [bD]; rw [Ie, ih]
    | false => exact ih
   | false => exact ih
def Wh (j : Nat) (hist : List ((AH → Option Value) × AH)) (rd : AH → Option Value) (H H' : AH) (p : Nat × Nat) : Prop :=
 (p.1 = j → p.2 < j → ∃ h, hist[p.2]? = some h ∧ rd h.2 = rd H) ∧ (p.2 = j → p.1 < j → ∃ h, hist[p.1]? = some h ∧ h.1 H' = h.1 h.2)
theorem O9 {α : Type} {p : Prop} {x : Option α} {r : α} : Id p x = some r ↔ p ∧ x = some r := ⟨mo, fun h => by rw [ju h.1]; exact h.2⟩
theorem Pb {α : Type} {j : Nat} {hist : List ((AH → Option Value) × AH)} {rd : AH → Option Value} {H H' : AH} {x : Option α} {r : α} : ∀ {l}, SC j hist rd H H' x l = some r ↔ (∀ p ∈ l, Wh j hist rd H H' p) ∧ x = some r := by
 intro l
 induction l with
 | nil => simp [SC]
 | cons p l ih =>
  have split : (∀ q ∈ p :: l, Wh j hist rd H H' q) ↔ Wh j hist rd H H' p ∧ ∀ q ∈ l, Wh j hist rd H H' q := by simp
  rw [split, and_assoc, ← ih]
  simp only [SC]
  by_cases h1 : p.1 = j
  ·have e1 : (p.1 == j) = true := by simpa using h1
   rw [e1]
   simp only
   by_cases h2 : p.2 < j
   ·have e2 : Nat.blt p.2 j = true := by simpa [Nat.blt_eq] using h2
    rw [e2]
    simp only
    have hn : ¬ p.2 = j := by omega
    unfold Wh
    cases hist[p.2]? with
    | none => simp [h1, h2]
    | some h => simp only [bD]; rw [O9]; simp [h1, h2, hn]
   ·have e2 : Nat.blt p.2 j = false := by rw [Bool.eq_false_iff]; intro h; exact h2 (by simpa [Nat.blt_eq] using h)
    rw [e2]
    simp only
    have : Wh j hist rd H H' p := ⟨fun _ h => absurd h h2, fun _ h => absurd h (by omega)⟩
    simp [this]
  ·have e1 : (p.1 == j) = false := by simpa using h1
   rw [e1]
   simp only
   by_cases h2 : p.2 = j
   ·have e2 : (p.2 == j) = true := by simpa using h2
    rw [e2]
    simp only
    by_cases h3 : p.1 < j
    ·have e3 : Nat.blt p.1 j = true := by simpa [Nat.blt_eq] using h3
     rw [e3]
     simp only
     unfold Wh
     cases hist[p.1]? with
     | none => simp [h1, h2, h3]
     | some h => simp only [bD]; rw [O9]; simp [h1, h2, h3]
    ·have e3 : Nat.blt p.1 j = false := by rw [Bool.eq_false_iff]; intro h; exact h3 (by simpa [Nat.blt_eq] using h)
     rw [e3]
     simp only
     have : Wh j hist rd H H' p := ⟨fun h => absurd h h1, fun _ h => absurd h h3⟩
     simp [this]
   ·have e2 : (p.2 == j) = false := by simpa using h2
    rw [e2]
    simp only
    have : Wh j hist rd H H' p := ⟨fun h => absurd h h1, fun h => absurd h h2⟩
    simp [this]
abbrev Hb (P : Program) (A : List Value) (o : Oper) : AH → Option Value := fun H => zw P (eg A) o.op H
noncomputable def oP (P : Program) (G : List Nat) (call : bh) (ops : Array Oper) (pairs : List (Nat × Nat)) : List Oper → Nat → List ((AH → Option Value) × AH) → List Value → AH → Option (List Value × AH)
 | [], _, _, A, H => some (A, H)
 | o :: rest, j, hist, A, H => (e8 P G call ops o A H).bind fun s => SC j hist (Hb P A o) H s.2 (oP P G call ops pairs rest (j + 1) (hist ++ [(Hb P A o, H)]) s.1 s.2) pairs
noncomputable abbrev O4 (P : Program) (G : List Nat) (call : bh) (ops : Array Oper) (pairs : List (Nat × Nat)) : List Oper → Nat → List ((AH → Option Value) × AH) → List Value → AH → (List Value → AH → Option R) → Option R
 | [], _, _, A, H, k => k A H
 | o :: rest, j, hist, A, H, k => O6 P G call ops o A H fun A' H' => SC j hist (Hb P A o) H H' (O4 P G call ops pairs rest (j + 1) (hist ++ [(Hb P A o, H)]) A' H' k) pairs
theorem WG (P : Program) (G : List Nat) (call : bh) (ops : Array Oper) (pairs : List (Nat × Nat)) : ∀ (l : List Oper) (j : Nat) (hist : List ((AH → Option Value) × AH)) (A : List Value) (H : AH) (k : List Value → AH → Option R), O4 P G call ops pairs l j hist A H k = (oP P G call ops pairs l j hist A H).bind fun s => k s.1 s.2 := by
 intro l
 induction l with
 | nil => intro j hist A H k; rfl
 | cons o l ih =>
  intro j hist A H k
  simp only [O4, oP]
  rw [Ic, Option.bind_assoc]
  congr 1
  funext s
  rw [WL, ih]
theorem Sn {P : Program} {G : List Nat} {call : bh} {ops : Array Oper} {pairs : List (Nat × Nat)} {A0 : List Value} {H0 : AH} {r0 : List Value × AH} (h0 : cz P G call ops ops.toList A0 H0 = some r0) (hp : ∀ p ∈ pairs, p.1 < ops.size ∧ p.2 < ops.size ∧ p.1 ≠ p.2) :
 ∀ (l : List Oper) (j : Nat) (hist : List ((AH → Option Value) × AH)), ops.toList.drop j = l → hist.length = j → (∀ i, i < j → ∃ o, ops[i]? = some o ∧ hist[i]? = some (Hb P (iM P G call ops A0 H0 i).1 o, (iM P G call ops A0 H0 i).2)) →
  ∀ r, oP P G call ops pairs l j hist (iM P G call ops A0 H0 j).1 (iM P G call ops A0 H0 j).2 = some r ↔ (∀ p ∈ pairs, j ≤ max p.1 p.2 → iU P (iM P G call ops A0 H0) ops p) ∧ r = r0 := by
 intro l
 induction l with
 | nil =>
  intro j hist hl hlen hh r
  have hj : ops.size ≤ j := by
   have := congrArg List.length hl
   simp at this; omega
  have hst : iM P G call ops A0 H0 j = r0 := by
   unfold iM
   rw [List.take_of_length_le (by simpa using hj), h0]; rfl
  simp only [oP, hst]
  constructor
  ·intro e
   exact ⟨fun p hpm hm => absurd (hp p hpm) (by omega), (Option.some.inj e).symm⟩
  ·rintro ⟨_, rfl⟩; rfl
 | cons o l ih =>
  intro j hist hl hlen hh r
  have hj : ops.toList[j]? = some o := by
   have := congrArg (·[0]?) hl
   simpa using this
  have ho : ops[j]? = some o := by simpa using hj
  have hjs : j < ops.size := by
   have := (List.getElem?_eq_some_iff.1 hj).1
   simpa using this
  have hstep := Ko h0 ho
  have hl' : ops.toList.drop (j + 1) = l := by
   have := congrArg (List.drop 1) hl
   simpa [List.drop_drop, Nat.add_comm] using this
  have hh' : ∀ i, i < j + 1 → ∃ o', ops[i]? = some o' ∧ (hist ++ [(Hb P (iM P G call ops A0 H0 j).1 o, (iM P G call ops A0 H0 j).2)])[i]? = some (Hb P (iM P G call ops A0 H0 i).1 o', (iM P G call ops A0 H0 i).2) := by
   intro i hi
   by_cases e : i = j
   ·subst e
    exact ⟨o, ho, by rw [List.getElem?_append_right (by omega)]; simp [hlen]⟩
   ·obtain ⟨o', h1, h2⟩ := hh i (by omega)
    exact ⟨o', h1, by rw [List.getElem?_append_left (by omega)]; exact h2⟩
  have hi := ih (j + 1) _ hl' (by simp [hlen]) hh' r
  simp only [oP]
  rw [hstep]
  simp only [Option.bind_some]
  rw [Pb, hi]
  have key : ∀ p ∈ pairs, max p.1 p.2 = j → (Wh j hist (Hb P (iM P G call ops A0 H0 j).1 o) (iM P G call ops A0 H0 j).2 (iM P G call ops A0 H0 (j + 1)).2 p ↔ iU P (iM P G call ops A0 H0) ops p) := by
   intro p hpm hm
   obtain ⟨h1, h2, h3⟩ := hp p hpm
   unfold Wh iU
   by_cases hlt : p.2 < p.1
   ·have e1 : p.1 = j := by omega
    obtain ⟨o2, _, hg⟩ := hh p.2 (by omega)
    rw [if_pos hlt]
    constructor
    ·intro ⟨a, _⟩ o' ho'
     rw [e1, ho] at ho'
     cases ho'
     obtain ⟨h, hg', e⟩ := a e1 (by omega)
     rw [hg] at hg'
     cases hg'
     rw [e1]
     exact e
    ·intro a
     refine ⟨fun _ _ => ⟨_, hg, ?_⟩, fun e => absurd e (by omega)⟩
     have := a o (by rw [e1]; exact ho)
     rw [e1] at this
     exact this
   ·have e2 : p.2 = j := by omega
    obtain ⟨o1, ho1, hg⟩ := hh p.1 (by omega)
    rw [if_neg hlt, e2]
    constructor
    ·intro ⟨_, a⟩ o' ho'
     rw [ho1] at ho'
     cases ho'
     obtain ⟨h, hg', e⟩ := a rfl (by omega)
     rw [hg] at hg'
     cases hg'
     exact e
    ·intro a
     refine ⟨fun e => absurd e (by omega), fun _ _ => ⟨_, hg, a o1 ho1⟩⟩
  have out : ∀ p ∈ pairs, max p.1 p.2 ≠ j → Wh j hist (Hb P (iM P G call ops A0 H0 j).1 o) (iM P G call ops A0 H0 j).2 (iM P G call ops A0 H0 (j + 1)).2 p := by
   intro p hpm hm
   exact ⟨fun h1 h2 => absurd hm (by omega), fun h1 h2 => absurd hm (by omega)⟩
  constructor
  ·rintro ⟨a, b, c⟩
   refine ⟨fun p hpm hm => ?_, c⟩
   by_cases e : max p.1 p.2 = j
   ·exact (key p hpm e).1 (a p hpm)
   ·exact b p hpm (by omega)
  ·rintro ⟨a, c⟩
   refine ⟨fun p hpm => ?_, fun p hpm hm => a p hpm (by omega), c⟩
   by_cases e : max p.1 p.2 = j
   ·exact (key p hpm e).2 (a p hpm (by omega))
   ·exact out p hpm e
theorem KY {P : Program} {G : List Nat} {call : bh} {ops : Array Oper} {pairs : List (Nat × Nat)} : ∀ (l : List Oper) (j : Nat) (hist : List ((AH → Option Value) × AH)) (A : List Value) (H : AH) (r : List Value × AH), oP P G call ops pairs l j hist A H = some r → cz P G call ops l A H = some r := by
 intro l
 induction l with
 | nil => intro j hist A H r h; exact h
 | cons o l ih =>
  intro j hist A H r h
  simp only [oP] at h
  obtain ⟨s, hs, h⟩ := Option.bind_eq_some_iff.1 h
  simp only [cz]
  rw [hs]
  exact ih _ _ _ _ _ (Pb.1 h).2
theorem GA {ops : Array Oper} : ∀ p ∈ db ops.toList, p.1 < ops.size ∧ p.2 < ops.size ∧ p.1 ≠ p.2 := by
 intro p hp
 unfold db at hp
 simp only [List.mem_flatMap, List.mem_filter, List.mem_map] at hp
 obtain ⟨x, ⟨hx, hx2⟩, y, ⟨hy, hy2⟩, rfl⟩ := hp
 have hx := List.mem_zipIdx hx
 have hy := List.mem_zipIdx hy
 simp only [beq_iff_eq] at hx2
 simp only [Bool.and_eq_true, beq_iff_eq] at hy2
 refine ⟨by have := hx.2.1; simpa using this, by have := hy.2.1; simpa using this, ?_⟩
 intro e
 simp only at e
 have e3 := hy2.1.1
 have ex := hx.2.2
 have ey := hy.2.2
 simp only [e, Nat.sub_zero] at ex ey
 have : x.1 = y.1 := by rw [ex, ey]
 rw [this, e3] at hx2
 cases hx2
theorem Lb {P : Program} {G : List Nat} {call : bh} {ops : Array Oper} {pairs : List (Nat × Nat)} (hp : ∀ p ∈ pairs, p.1 < ops.size ∧ p.2 < ops.size ∧ p.1 ≠ p.2) (A : List Value) (H : AH) :
 Id (∀ q ∈ pairs, iU P (iM P G call ops A H) ops q) (cz P G call ops ops.toList A H) = oP P G call ops pairs ops.toList 0 [] A H := by
 cases hx : cz P G call ops ops.toList A H with
 | none =>
  cases hy : oP P G call ops pairs ops.toList 0 [] A H with
  | none => unfold Id; split <;> rfl
  | some r => have := KY _ _ _ _ _ _ hy; rw [hx] at this; cases this
 | some r0 =>
  have hi := Sn hx hp ops.toList 0 [] rfl rfl (fun i hi => absurd hi (by omega))
  simp only [acY] at hi
  cases hy : oP P G call ops pairs ops.toList 0 [] A H with
  | none =>
   cases hz : Id (∀ q ∈ pairs, iU P (iM P G call ops A H) ops q) (some r0) with
   | none => rfl
   | some r =>
    obtain ⟨h1, h2⟩ := mo hz
    have := (hi r0).2 ⟨fun p hpm _ => h1 p hpm, rfl⟩
    rw [hy] at this; cases this
  | some r =>
   obtain ⟨h1, h2⟩ := (hi r).1 hy
   rw [ju (fun p hpm => h1 p hpm (by omega)), h2]
noncomputable abbrev EY (P : Program) (G : List Nat) (call : bh) (ops : Array Oper) (draw : Bool) (A : List Value) (H : AH) (k : List Value → AH → Option R) : Option R :=
 match draw with
 | false => WE P G call ops ops.toList A H k
 | true => match rL ops.toList with
  | false => none
  | true => match db ops.toList with
   | [] => WE P G call ops ops.toList A H k
   | p :: ps => O4 P G call ops (p :: ps) ops.toList 0 [] A H k
theorem La (P : Program) (G : List Nat) (call : bh) (ops : Array Oper) (draw : Bool) (A : List Value) (H : AH) (k : List Value → AH → Option R) : EY P G call ops draw A H k = (eK P G call ops draw A H).bind fun s => k s.1 s.2 := by
 unfold EY eK kZ
 cases draw with
 | false => exact O5 ..
 | true =>
  simp only
  cases rL ops.toList with
  | false => rfl
  | true =>
   simp only
   cases hl : db ops.toList with
   | nil => exact O5 ..
   | cons p ps =>
    simp only
    rw [Lb (fun q hq => GA q (by rw [hl]; exact hq)), WG]
def aeL (kn : List Value → AH → Option R) (kx : Nat → List Value → AH → Option R) (kr : List Value → AH → Option R) (r : AR) : Option R :=
 match r.1 with
 | .normal => kn r.2.1 r.2.2
 | .exit i => kx i r.2.1 r.2.2
 | .ret => kr r.2.1 r.2.2
noncomputable def hF (P : Program) (G : List Nat) (call : bh) (x : Code) (A : List Value) (H : AH) (kx : Nat → List Value → AH → Option R) (kr : List Value → AH → Option R) : Option R :=
 (od (aN P G call x) A H).bind (aeL (fun _ _ => none) kx kr)
noncomputable abbrev aU (P : Program) (G : List Nat) (call : bh) : Code → List Value → AH → (List Value → AH → Option R) → (Nat → List Value → AH → Option R) → (List Value → AH → Option R) → Option R
 | .skip, A, H, kn, _, _ => kn A H
 | .label _, A, H, kn, _, _ => kn A H
 | .region _ ops draw, A, H, kn, _, _ => EY P G call ops draw A H kn
 | .seq x y, A, H, kn, kx, kr => aU P G call x A H (fun A H => aU P G call y A H kn kx kr) kx kr
 | .cond c x y, A, H, kn, kx, kr => match eg A c with
  | .bool true => aU P G call x A H kn kx kr
  | .bool false => aU P G call y A H kn kx kr
  | _ => none
 | .block id x, A, H, kn, kx, kr => aU P G call x A H kn (fun i A H => if i = id then kn A H else kx i A H) kr
 | .loop x, A, H, _, kx, kr => hF P G call x A H kx kr
 | .exit id, A, H, _, kx, _ => kx id A H
 | .ret, A, H, _, _, kr => kr A H
 | _, _, _, _, _, _ => none
theorem Sk {f : List Value → AH → Option AR} : ∀ {n : Nat} {A : List Value} {H : AH} {r : AR}, dQ f n A H = some r → r.1 ≠ .normal := by
 intro n
 induction n with
 | zero => intro A H r h; cases h
 | succ n ih =>
  intro A H r h
  simp only [dQ] at h
  obtain ⟨s, hs, h⟩ := Option.bind_eq_some_iff.1 h
  split at h
  ·exact ih h
  ·rename_i e
   cases h
   exact fun he => e he
theorem Sm {f : List Value → AH → Option AR} {A : List Value} {H : AH} {r : AR} (h : od f A H = some r) : r.1 ≠ .normal := by
 obtain ⟨n, hn⟩ := cy.1 h
 exact Sk hn
theorem tc (P : Program) (G : List Nat) (call : bh) : ∀ (c : Code) (A : List Value) (H : AH) (kn : List Value → AH → Option R) (kx : Nat → List Value → AH → Option R) (kr : List Value → AH → Option R),
 aU P G call c A H kn kx kr = (aN P G call c A H).bind (aeL kn kx kr) := by
 intro c
 induction c with
 | skip => intros; rfl
 | label => intros; rfl
 | exit => intros; rfl
 | ret => intros; rfl
 | region id ops draw =>
  intro A H kn kx kr
  simp only [aU, aN]
  rw [La, Option.bind_map]; rfl
 | seq x y ihx ihy =>
  intro A H kn kx kr
  simp only [aU, aN]
  rw [ihx, Option.bind_assoc]
  congr 1
  funext r
  obtain ⟨e, A1, H1⟩ := r
  cases e with
  | normal => simp only [aeL]; exact ihy ..
  | exit i => rfl
  | ret => rfl
 | cond c x y ihx ihy =>
  intro A H kn kx kr
  simp only [aU, aN]
  generalize eg A c = v
  cases v with
  | bool b => cases b <;> first | exact ihx .. | exact ihy ..
  | _ => rfl
 | block id x ih =>
  intro A H kn kx kr
  simp only [aU, aN]
  rw [ih, Option.bind_map]
  congr 1
  funext r
  obtain ⟨e, A1, H1⟩ := r
  cases e with
  | normal => rfl
  | exit i =>
   simp only [aeL, Function.comp]
   split <;> rfl
  | ret => rfl
 | loop x ih =>
  intro A H kn kx kr
  simp only [aU, aN, hF]
  cases h : od (aN P G call x) A H with
  | none => rfl
  | some r =>
   simp only [Option.bind_some]
   have := Sm h
   obtain ⟨e, A1, H1⟩ := r
   cases e with
   | normal => exact absurd rfl this
   | exit i => rfl
   | ret => rfl
 | rangeFunc => intros; rfl
 | scope => intros; rfl
 | goto => intros; rfl
 | refuse => intros; rfl
theorem WB (P : Program) (G : List Nat) (call : bh) (x : Code) (A : List Value) (H : AH) (kx : Nat → List Value → AH → Option R) (kr : List Value → AH → Option R) :
 hF P G call x A H kx kr = aU P G call x A H (fun A H => hF P G call x A H kx kr) kx kr := by
 rw [tc]
 unfold hF
 rw [Wt, Option.bind_assoc]
 congr 1
 funext r
 obtain ⟨e, A1, H1⟩ := r
 cases e <;> rfl
abbrev rk (P : Program) (A : List Value) (H : AH) : List ResultVar → (List Value → Option R) → Option R
 | [], k => k []
 | .tmp t :: rs, k => rk P A H rs fun vs => k (A[t]?.getD undef :: vs)
 | .cell a t :: rs, k => tb (ed P t) fun g => match g with
  | some n => (aD n (A[a]?.getD undef) H).bind fun v => rk P A H rs fun vs => k (v :: vs)
  | none => (aq (A[a]?.getD undef) H).bind fun v => rk P A H rs fun vs => k (v :: vs)
theorem WC (P : Program) (A : List Value) (H : AH) : ∀ (rs : List ResultVar) (k : List Value → Option R), rk P A H rs k = (rj P A H rs).bind k := by
 intro rs
 induction rs with
 | nil => intro k; rfl
 | cons r rs ih =>
  intro k
  simp only [rj, Option.bind_assoc, Option.bind_some]
  cases r with
  | tmp t =>
   simp only [rk, jX, Option.bind_some]
   rw [ih]
  | cell a t =>
   simp only [rk, jX, Option.bind_assoc, Kz]
   congr 1
   funext g
   cases g <;> (simp only; congr 1; funext v; rw [ih])
end
def tup : List Value → Value
 | [v] => v
 | vs => .tuple vs.toArray
abbrev dR (P : Program) (rs : List ResultVar) (A : List Value) (H : AH) : Option (Value × AH) := rk P A H rs fun vs => some (tup vs, H)
noncomputable def O2 (P : Program) (G : List Nat) (call : bh) (n : Nat) (rs : List ResultVar) (c : Code) (args : List Value) (H : AH) : Option (Value × AH) :=
 aU P G call c (args ++ List.replicate (n - args.length) undef) H (dR P rs) (fun _ _ _ => none) (dR P rs)
theorem O3 (P : Program) (rs : List ResultVar) (A : List Value) (H : AH) : dR P rs A H = (g9 P A H rs).map (·, H) := by
 unfold dR g9
 rw [WC, Option.map_map]
 cases rj P A H rs with
 | none => rfl
 | some vs =>
  simp only [Option.bind_some, Option.map_some, Function.comp]
  congr 2
theorem WA (P : Program) (G : List Nat) (call : bh) (n : Nat) (rs : List ResultVar) (c : Code) (args : List Value) (H : AH) : O2 P G call n rs c args H = oc P G call n rs c args H := by
 unfold O2 oc
 rw [tc]
 congr 1
 funext r
 obtain ⟨e, A1, H1⟩ := r
 cases e with
 | normal => exact O3 ..
 | exit i => rfl
 | ret => exact O3 ..
def bG (fn : Func) : Code := fn.body.getD .skip
theorem KW {P : Program} {G : List Nat} {f : Nat} {fn : Func} (hf : P.funcs[f]? = some fn) (hb : fn.body.isSome = true) (hn : (fn.name == "runtime.NumGoroutine") = false) (hd : jI (bG fn) = none) {args : List Value} {H : AH} {r : Value × AH}
 (h : O2 P G (aF P G) fn.ntmps fn.results.toList (bG fn) args H = some r) : aF P G f args H = some r := by
 cases hc : fn.body with
 | none => rw [hc] at hb; cases hb
 | some c =>
  rw [WA] at h
  unfold bG at h hd
  rw [hc] at h hd
  exact aj9 hf hc (by simpa using hn) hd h
def Code.sub : Code → List Nat → Code
 | c, [] => c
 | .seq x _, 0 :: p => Code.sub x p
 | .seq _ y, 1 :: p => Code.sub y p
 | .cond _ x _, 2 :: p => Code.sub x p
 | .cond _ _ y, 3 :: p => Code.sub y p
 | .block _ x, 4 :: p => Code.sub x p
 | .loop x, 5 :: p => Code.sub x p
 | _, _ => .skip
def yv : Value → Option Bool
 | .bool b => some b
 | _ => none
def aV {R : Type} (cs : List Value) (H : AH) (k : Value → AH → Option R) : Option R := k (.pointer (some ⟨H.size, 0, none⟩)) (H.push (.cells false cs))
def akY {R : Type} (len e : Nat) (cs : List Value) (H : AH) (k : Value → AH → Option R) : Option R := k (.slice (some ⟨H.size, 0, none⟩) len e) (H.push (.cells false cs))
def C0 {R : Type} (H : AH) (k : Value → AH → Option R) : Option R := k (.map (some H.size)) (H.push (.map [] 0))
def dG {R : Type} (x : Value) (k : Value → Option R) : Option R :=
 match x with
 | .slice _ n _ => k (.int .i64 n)
 | _ => none
def afN (x : Value) : Option Value :=
 match x with
 | .slice _ _ _ => oI x
 | _ => none
def ax {R : Type} (c : Value) (x y : Option R) : Option R :=
 match c with
 | .bool true => x
 | .bool false => y
 | _ => none
def uY {α : Type} (y : Option Bool) (want : Bool) (a b : Option α) : Option α :=
 match y == some want with
 | true => a
 | false => b
theorem BI (a b : Value) : aQ (.bool true) a b = some a := rfl
theorem GQ (a b : Value) : aQ (.bool false) a b = some b := rfl
abbrev vi (n : Int) : Value := .int .i64 n
abbrev vw (n : Int) : Value := .int .u64 n
abbrev vu (n : Nat) : Value := .int .u64 (n : Int)
abbrev vb (b : Bool) : Value := .bool b
inductive Stp where
 | n
 | f (k : Nat)
 | i (e : Nat) (v : Value)
 | a (len e : Nat) (v : Value)
def ad {R : Type} : List Stp → Value → (Value → Option R) → Option R
 | [], a, k => k a
 | .n :: p, a, k => (ss a).bind fun a => ad p a k
 | .f o :: p, a, k => (C3 o a).bind fun a => ad p a k
 | .i e v :: p, a, k => (mY e a v).bind fun a => ad p a k
 | .a len e v :: p, a, k => (gX len e a v).bind fun a => ad p a k
def ld {R : Type} (p : List Stp) (x : Value) (H : AH) (k : Value → Option R) : Option R := ad p x fun a => (aq a H).bind k
def ldN {R : Type} (n : Nat) (p : List Stp) (x : Value) (H : AH) (k : Value → Option R) : Option R := ad p x fun a => (aD n a H).bind k
def st {R : Type} (n : Nat) (p : List Stp) (x v : Value) (H : AH) (k : AH → Option R) : Option R := ad p x fun a => (dn n a v H).bind k
def gB (c : Value) (want : Bool) (e : Option Value) : Option Value := uY (yv c) want (e.bind some) (some undef)
def gV (c : Value) (want : Bool) (e : Value) : Option Value := uY (yv c) want (some e) (some undef)
def gE (c : Value) (want : Bool) (H : AH) (e : Option (Value × AH)) : Option (Value × AH) := uY (yv c) want e (some (undef, H))
def A7 {R : Type} (c : Value) (want : Bool) : List Stp → Value → (Value → Option R) → Option R
 | [], a, k => k a
 | .n :: p, a, k => (gB c want (ss a)).bind fun a => A7 c want p a k
 | .f o :: p, a, k => (gB c want (C3 o a)).bind fun a => A7 c want p a k
 | .i e v :: p, a, k => (gB c want (mY e a v)).bind fun a => A7 c want p a k
 | .a len e v :: p, a, k => (gB c want (gX len e a v)).bind fun a => A7 c want p a k
def fu {R : Type} (c : Value) (want : Bool) (p : List Stp) (x : Value) (H : AH) (k : Value → Option R) : Option R := A7 c want p x fun a => (gB c want (aq a H)).bind k
def mI {R : Type} (c : Value) (want : Bool) (n : Nat) (p : List Stp) (x : Value) (H : AH) (k : Value → Option R) : Option R := A7 c want p x fun a => (gB c want (aD n a H)).bind k
def g6 {R : Type} (ps : List (Nat × Nat)) (zero : List Value) (xs : List (Nat × Value)) (k : Value → Option R) : Option R := (cC (fun i => ps[i]?) zero xs).bind fun cs => k (.agg cs.toArray)
def afV (e : Nat) (i : Nat) : Option (Nat × Nat) := some (i * e, e)
def vJ {R : Type} (len e : Nat) (zero : List Value) (xs : List (Nat × Value)) (H : AH) (k : Value → AH → Option R) : Option R := (cC (afV e) (List.replicate len zero).flatten xs).bind fun cs => akY len e cs H k
def gP (D : Nat) (A A' : List Value) : Prop := A.length = A'.length ∧ ∀ t, D.testBit t = false → A[t]? = A'[t]?
def iQ (D : Nat) : Nat → List Value → List Value
 | _, [] => []
 | i, v :: vs => (match D.testBit i with | true => undef | false => v) :: iQ D (i + 1) vs
def clear (D : Nat) (A : List Value) : List Value := iQ D 0 A
theorem u4 (D : Nat) : ∀ (A : List Value) (i : Nat), (iQ D i A).length = A.length := by
 intro A
 induction A with
 | nil => intro i; rfl
 | cons v vs ih => intro i; simp [iQ, ih]
theorem CM (D : Nat) : ∀ (A : List Value) (i t : Nat), D.testBit (i + t) = false → (iQ D i A)[t]? = A[t]? := by
 intro A
 induction A with
 | nil => intro i t _; rfl
 | cons v vs ih =>
  intro i t h
  cases t with
  | zero => simp only [Nat.add_zero] at h; simp [iQ, h]
  | succ t => simp only [iQ, List.getElem?_cons_succ]; exact ih (i + 1) t (by rw [show i + 1 + t = i + (t + 1) from by omega]; exact h)
theorem gS (D : Nat) (A : List Value) : gP D A (clear D A) := ⟨(u4 D A 0).symm, fun t h => (CM D A 0 t (by simpa using h)).symm⟩
def au {R : Type} (D : Nat) (k : List Value → AH → Option R) : Prop := ∀ A A' H, gP D A A' → k A H = k A' H
def opr (D : Nat) : Operand → Bool
 | .tmp t => !D.testBit t
 | _ => true
def OM (D : Nat) : Option Tmp → Nat
 | some d => match D.testBit d with | true => D ^^^ 2 ^ d | false => D
 | none => D
theorem agI {D : Nat} {d : Option Tmp} {t : Nat} (h : D.testBit t = false) : (OM D d).testBit t = false := by
 unfold OM
 split
 ·split
  ·rename_i hd
   rw [Nat.testBit_xor, h, Nat.testBit_two_pow]
   simp
   intro e
   subst e; rw [h] at hd; cases hd
  ·exact h
 ·exact h
theorem agJ {D : Nat} {d : Option Tmp} {t : Nat} (h : (OM D d).testBit t = false) (hd : d ≠ some t) : D.testBit t = false := by
 unfold OM at h
 split at h
 ·rename_i d
  split at h
  ·rename_i hb
   rw [Nat.testBit_xor, Nat.testBit_two_pow] at h
   have : ¬ d = t := fun e => hd (by rw [e])
   simpa [this] using h
  ·exact h
 ·exact h
def sq (D : Nat) (ops : Array Oper) (o : Oper) : Bool :=
 o.op.operands.toList.all (opr D) && match o.guard with
 | none => true
 | some g => match (ops[g.1]?).bind (·.dst) with
  | some t => !D.testBit t
  | none => true
def mX (ops : Array Oper) : List Oper → Nat → Option Nat
 | [], D => some D
 | o :: rest, D => match sq D ops o with
  | true => mX ops rest (OM D o.dst)
  | false => none
def qH : Code → Nat → Option Nat
 | .skip, D => some D
 | .label _, D => some D
 | .region _ ops _, D => mX ops ops.toList D
 | .seq x y, D => match qH x D with
  | some D1 => match qH y D1 with
   | some D2 => some D2
   | none => none
  | none => none
 | .cond c x y, D => match opr D c with
  | true => match qH x D, qH y D with
   | some D1, some D2 => some (D1 ||| D2)
   | _, _ => none
  | false => none
 | .block _ x, D => match qH x D with
  | some _ => some D
  | none => none
 | .loop x, D => match qH x D with
  | some _ => some D
  | none => none
 | .exit _, _ => some 0
 | .ret, _ => some 0
 | _, _ => none
section
variable {P : Program} {G : List Nat} {call : bh} {R : Type}
theorem gP.mono {D D' : Nat} {A A' : List Value} (h : gP D A A') (hm : ∀ t, D'.testBit t = false → D.testBit t = false) : gP D' A A' := ⟨h.1, fun t ht => h.2 t (hm t ht)⟩
theorem gP.ev {D : Nat} {A A' : List Value} (h : gP D A A') {x : Operand} (hx : opr D x = true) : eg A x = eg A' x := by
 cases x with
 | tmp t => simp only [opr, Bool.not_eq_true'] at hx; simp only [eg]; rw [h.2 t hx]
 | _ => rfl
theorem gP.put {D : Nat} {A A' : List Value} (h : gP D A A') (d : Option Tmp) (v : Value) : gP (OM D d) (jW A d v) (jW A' d v) := by
 refine ⟨by rw [k7, k7, h.1], fun t ht => ?_⟩
 by_cases hd : d = some t
 ·subst hd; rw [yG, yG, h.1]
 ·rw [s8 hd, s8 hd]; exact h.2 t (agJ ht hd)
theorem aaY {ops : Array Oper} : ∀ {l : List Oper} {D D' : Nat}, mX ops l D = some D' → ∀ t, D.testBit t = false → D'.testBit t = false := by
 intro l
 induction l with
 | nil => intro D D' h t ht; simp only [mX] at h; cases h; exact ht
 | cons o l ih =>
  intro D D' h t ht
  simp only [mX] at h
  split at h
  ·exact ih h t (agI ht)
  ·cases h
theorem GI : ∀ {c : Code} {D D' : Nat}, qH c D = some D' → ∀ t, D.testBit t = false → D'.testBit t = false := by
 intro c
 induction c with
 | skip => intro D D' h t ht; simp only [qH] at h; cases h; exact ht
 | label l => intro D D' h t ht; simp only [qH] at h; cases h; exact ht
 | region id ops draw => intro D D' h; simp only [qH] at h; exact aaY h
 | seq x y ihx ihy =>
  intro D D' h t ht
  simp only [qH] at h
  split at h
  ·rename_i D1 h1
   split at h
   ·rename_i D2 h2; cases h; exact ihy h2 t (ihx h1 t ht)
   ·cases h
  ·cases h
 | cond c x y ihx ihy =>
  intro D D' h t ht
  simp only [qH] at h
  split at h
  ·split at h
   ·rename_i D1 D2 h1 h2; cases h
    rw [Nat.testBit_or, ihx h1 t ht, ihy h2 t ht]; rfl
   ·cases h
  ·cases h
 | block id x ih => intro D D' h t ht; simp only [qH] at h; split at h <;> cases h; exact ht
 | loop x ih => intro D D' h t ht; simp only [qH] at h; split at h <;> cases h; exact ht
 | exit id => intro D D' h t ht; simp only [qH] at h; cases h; simp
 | ret => intro D D' h t ht; simp only [qH] at h; cases h; simp
 | rangeFunc => intro D D' h; simp [qH] at h
 | scope => intro D D' h; simp [qH] at h
 | goto => intro D D' h; simp [qH] at h
 | refuse => intro D D' h; simp [qH] at h
inductive Both (D : Nat) : Option (List Value × AH) → Option (List Value × AH) → Prop
 | no : Both D none none
 | yes {A A' : List Value} (H : AH) (h : gP D A A') : Both D (some (A, H)) (some (A', H))
theorem VO {ops : Array Oper} {o : Oper} {D : Nat} (ho : sq D ops o = true) {A A' : List Value} (h : gP D A A') (H : AH) : Both (OM D o.dst) (e8 P G call ops o A H) (e8 P G call ops o A' H) := by
 unfold sq at ho
 simp only [Bool.and_eq_true] at ho
 have hev : ∀ x ∈ o.op.operands.toList, eg A x = eg A' x := fun x hx => h.ev (List.all_eq_true.1 ho.1 x hx)
 have hw : Region.wanted o (cU ops A) = Region.wanted o (cU ops A') := by
  unfold Region.wanted
  cases hg : o.guard with
  | none => rfl
  | some g =>
   obtain ⟨g, want⟩ := g
   rw [hg] at ho
   have hy : cU ops A g = cU ops A' g := by
    unfold cU
    cases hd : (ops[g]?).bind (·.dst) with
    | none => rfl
    | some t =>
     have h2 := ho.2
     simp only [hd, Bool.not_eq_true'] at h2
     simp only [Option.bind_some]
     rw [h.2 t h2]
   simp only [hy]
 unfold e8
 rw [hw, mn hev H]
 split
 ·split
  ·cases dE P call (eg A') o H with
   | none => exact .no
   | some r => exact .yes r.2 (h.put o.dst r.1)
  ·exact .yes H (h.put o.dst undef)
 ·exact .no
theorem ua {ops : Array Oper} : ∀ {l : List Oper} {D D' : Nat}, mX ops l D = some D' → ∀ {A A' : List Value}, gP D A A' → ∀ H, Both D' (cz P G call ops l A H) (cz P G call ops l A' H) := by
 intro l
 induction l with
 | nil => intro D D' h A A' hA H; simp only [mX] at h; cases h; exact .yes H hA
 | cons o l ih =>
  intro D D' h A A' hA H
  simp only [mX] at h
  split at h
  ·rename_i ho
   simp only [cz]
   have := VO (P := P) (G := G) (call := call) ho hA H
   generalize e8 P G call ops o A H = x at this
   generalize e8 P G call ops o A' H = y at this
   cases this with
   | no => exact .no
   | yes H1 hA1 => exact ih h hA1 H1
  ·cases h
theorem Nf {ops : Array Oper} : ∀ {l : List Oper} {D D' : Nat}, mX ops l D = some D' → ∀ i, ∃ Di, mX ops (l.take i) D = some Di ∧ ∀ o, l[i]? = some o → sq Di ops o = true := by
 intro l
 induction l with
 | nil => intro D D' h i; exact ⟨D, by cases i <;> rfl, fun o ho => by simp at ho⟩
 | cons o l ih =>
  intro D D' h i
  simp only [mX] at h
  split at h
  ·rename_i ho
   cases i with
   | zero => exact ⟨D, rfl, fun o' ho' => by simp at ho'; subst ho'; exact ho⟩
   | succ i =>
    obtain ⟨Di, h1, h2⟩ := ih h i
    refine ⟨Di, ?_, fun o' ho' => h2 o' (by simpa using ho')⟩
    simp only [List.take_succ_cons, mX, ho]
    exact h1
  ·cases h
theorem SE {ops : Array Oper} {D D' : Nat} (h : mX ops ops.toList D = some D') {A A' : List Value} (hA : gP D A A') (H : AH) : Both D' (kZ P G call ops A H) (kZ P G call ops A' H) := by
 unfold kZ
 split
 ·exact .no
 ·split
  ·exact ua h hA H
  ·rename_i p ps hp
   have hb := ua (P := P) (G := G) (call := call) h hA H
   have key : cz P G call ops ops.toList A H ≠ none → ((∀ q ∈ p :: ps, iU P (iM P G call ops A H) ops q) ↔ ∀ q ∈ p :: ps, iU P (iM P G call ops A' H) ops q) := by
    intro hne
    have hst : ∀ i, ∃ Di, gP Di (iM P G call ops A H i).1 (iM P G call ops A' H i).1 ∧ (iM P G call ops A H i).2 = (iM P G call ops A' H i).2 ∧ ∀ o, ops[i]? = some o → sq Di ops o = true := by
     intro i
     obtain ⟨Di, h1, h2⟩ := Nf h i
     have hbi := ua (P := P) (G := G) (call := call) h1 hA H
     cases hx : cz P G call ops ops.toList A H with
     | none => exact absurd hx hne
     | some r =>
      have h3 := uR hx i
      rw [h3] at hbi
      unfold iM at hbi ⊢
      rw [h3] at hbi ⊢
      generalize cz P G call ops (ops.toList.take i) A' H = y at hbi
      simp only [Option.getD_some] at hbi ⊢
      generalize hz : iM P G call ops A H i = z at hbi
      unfold iM at hz
      rw [h3] at hz
      simp only [Option.getD_some] at hz
      cases hbi with
      | yes H1 hA1 =>
       exact ⟨Di, hA1, rfl, fun o ho => h2 o (by simpa using ho)⟩
    have one : ∀ q, iU P (iM P G call ops A H) ops q ↔ iU P (iM P G call ops A' H) ops q := by
     intro q
     unfold iU
     obtain ⟨D1, a1, e1, o1⟩ := hst q.1
     obtain ⟨D2, a2, e2, o2⟩ := hst (if q.2 < q.1 then q.2 else q.2 + 1)
     constructor
     ·intro hl o ho
      have hev : ∀ x ∈ o.op.operands.toList, eg (iM P G call ops A H q.1).1 x = eg (iM P G call ops A' H q.1).1 x := fun x hx => a1.ev (by
       have := o1 o ho
       unfold sq at this
       simp only [Bool.and_eq_true] at this
       exact List.all_eq_true.1 this.1 x hx)
      have := hl o ho
      rw [qc hev, qc hev, e1, e2] at this
      exact this
     ·intro hl o ho
      have hev : ∀ x ∈ o.op.operands.toList, eg (iM P G call ops A H q.1).1 x = eg (iM P G call ops A' H q.1).1 x := fun x hx => a1.ev (by
       have := o1 o ho
       unfold sq at this
       simp only [Bool.and_eq_true] at this
       exact List.all_eq_true.1 this.1 x hx)
      rw [qc hev, qc hev, e1, e2]
      exact hl o ho
    exact ⟨fun hl q hq => (one q).1 (hl q hq), fun hl q hq => (one q).2 (hl q hq)⟩
   have hn : cz P G call ops ops.toList A H = none → cz P G call ops ops.toList A' H = none := by
    intro e; rw [e] at hb; generalize cz P G call ops ops.toList A' H = y at hb; cases hb; rfl
   by_cases hne : cz P G call ops ops.toList A H = none
   ·rw [hne, hn hne]
    unfold Id
    have : ∀ (c : Prop) [Decidable c], (if c then (none : Option (List Value × AH)) else none) = none := fun c _ => by split <;> rfl
    rw [this, this]; exact .no
   ·unfold Id
    by_cases hc : ∀ q ∈ p :: ps, iU P (iM P G call ops A H) ops q
    ·rw [if_pos hc, if_pos ((key hne).1 hc)]; exact hb
    ·rw [if_neg hc, if_neg (fun h => hc ((key hne).2 h))]; exact .no
inductive BothR (D D' : Nat) : Option AR → Option AR → Prop
 | no : BothR D D' none none
 | normal {A A' : List Value} (H : AH) (h : gP D' A A') : BothR D D' (some (.normal, A, H)) (some (.normal, A', H))
 | exit (i : Nat) {A A' : List Value} (H : AH) (h : gP D A A') : BothR D D' (some (.exit i, A, H)) (some (.exit i, A', H))
 | ret {A A' : List Value} (H : AH) (h : gP D A A') : BothR D D' (some (.ret, A, H)) (some (.ret, A', H))
theorem Dp : ∀ {c : Code} {D D' : Nat}, qH c D = some D' → ∀ {A A' : List Value}, gP D A A' → ∀ H, BothR D D' (aN P G call c A H) (aN P G call c A' H) := by
 intro c
 induction c with
 | skip => intro D D' h A A' hA H; simp only [qH] at h; cases h; exact .normal H hA
 | label l => intro D D' h A A' hA H; simp only [qH] at h; cases h; exact .normal H hA
 | exit id => intro D D' h A A' hA H; exact .exit id H hA
 | ret => intro D D' h A A' hA H; exact .ret H hA
 | region id ops draw =>
  intro D D' h A A' hA H
  simp only [qH] at h
  simp only [aN]
  have hb : Both D' (eK P G call ops draw A H) (eK P G call ops draw A' H) := by
   cases draw with
   | true => exact SE h hA H
   | false => exact ua h hA H
  generalize eK P G call ops draw A H = x at hb
  generalize eK P G call ops draw A' H = y at hb
  cases hb with
  | no => exact .no
  | yes H1 hA1 => exact .normal H1 hA1
 | seq x y ihx ihy =>
  intro D D' h A A' hA H
  simp only [qH] at h
  split at h
  ·rename_i D1 h1
   split at h
   ·rename_i D2 h2
    cases h
    simp only [aN]
    have hb := ihx h1 hA H
    generalize aN P G call x A H = u at hb
    generalize aN P G call x A' H = v at hb
    cases hb with
    | no => exact .no
    | normal H1 hA1 =>
     have hb2 := ihy h2 hA1 H1
     simp only [Option.bind_some]
     rename_i A1 A1'
     generalize aN P G call y A1 H1 = u at hb2
     generalize aN P G call y A1' H1 = v at hb2
     cases hb2 with
     | no => exact .no
     | normal H2 hA2 => exact .normal H2 hA2
     | exit i H2 hA2 => exact .exit i H2 (hA2.mono (fun t ht => GI h1 t ht))
     | ret H2 hA2 => exact .ret H2 (hA2.mono (fun t ht => GI h1 t ht))
    | exit i H1 hA1 => exact .exit i H1 hA1
    | ret H1 hA1 => exact .ret H1 hA1
   ·cases h
  ·cases h
 | cond c x y ihx ihy =>
  intro D D' h A A' hA H
  simp only [qH] at h
  split at h
  ·rename_i hc
   split at h
   ·rename_i D1 D2 h1 h2
    cases h
    simp only [aN]
    rw [hA.ev hc]
    have m1 : ∀ t, (D1 ||| D2).testBit t = false → D1.testBit t = false := fun t ht => by rw [Nat.testBit_or, Bool.or_eq_false_iff] at ht; exact ht.1
    have m2 : ∀ t, (D1 ||| D2).testBit t = false → D2.testBit t = false := fun t ht => by rw [Nat.testBit_or, Bool.or_eq_false_iff] at ht; exact ht.2
    generalize eg A' c = v
    cases v with
    | bool b =>
     cases b with
     | true =>
      have hb := ihx h1 hA H
      simp only
      generalize aN P G call x A H = u at hb
      generalize aN P G call x A' H = v at hb
      cases hb with
      | no => exact .no
      | normal H1 hA1 => exact .normal H1 (hA1.mono m1)
      | exit i H1 hA1 => exact .exit i H1 hA1
      | ret H1 hA1 => exact .ret H1 hA1
     | false =>
      have hb := ihy h2 hA H
      simp only
      generalize aN P G call y A H = u at hb
      generalize aN P G call y A' H = v at hb
      cases hb with
      | no => exact .no
      | normal H1 hA1 => exact .normal H1 (hA1.mono m2)
      | exit i H1 hA1 => exact .exit i H1 hA1
      | ret H1 hA1 => exact .ret H1 hA1
    | _ => exact .no
   ·cases h
  ·cases h
 | block id x ih =>
  intro D D' h A A' hA H
  simp only [qH] at h
  split at h <;> cases h
  rename_i D1 h1
  simp only [aN]
  have hb := ih h1 hA H
  generalize aN P G call x A H = u at hb
  generalize aN P G call x A' H = v at hb
  cases hb with
  | no => exact .no
  | normal H1 hA1 => exact .normal H1 (hA1.mono (fun t ht => GI h1 t ht))
  | exit i H1 hA1 =>
   simp only [Option.map_some]
   split
   ·exact .normal H1 hA1
   ·exact .exit i H1 hA1
  | ret H1 hA1 => exact .ret H1 hA1
 | loop x ih =>
  intro D D' h A A' hA H
  simp only [qH] at h
  split at h <;> cases h
  rename_i D1 h1
  simp only [aN]
  have it : ∀ n {A A' : List Value} (H : AH), gP D A A' → BothR D D (dQ (aN P G call x) n A H) (dQ (aN P G call x) n A' H) := by
   intro n
   induction n with
   | zero => intro A A' H _; exact .no
   | succ n ihn =>
    intro A A' H hA
    simp only [dQ]
    have hb := ih h1 hA H
    generalize aN P G call x A H = u at hb
    generalize aN P G call x A' H = v at hb
    cases hb with
    | no => exact .no
    | normal H1 hA1 => exact ihn H1 (hA1.mono (fun t ht => GI h1 t ht))
    | exit i H1 hA1 => exact .exit i H1 hA1
    | ret H1 hA1 => exact .ret H1 hA1
  cases hl : od (aN P G call x) A H with
  | some r =>
   obtain ⟨n, hn⟩ := cy.1 hl
   have hb := it n H hA
   rw [hn] at hb
   cases hm : dQ (aN P G call x) n A' H with
   | none => rw [hm] at hb; cases hb
   | some r' =>
    rw [cy.2 ⟨n, hm⟩]
    rw [hm] at hb
    exact hb
  | none =>
   cases hl' : od (aN P G call x) A' H with
   | none => exact .no
   | some r' =>
    obtain ⟨n, hn⟩ := cy.1 hl'
    have hb := it n H hA
    rw [hn] at hb
    cases hm : dQ (aN P G call x) n A H with
    | none => rw [hm] at hb; cases hb
    | some r => rw [cy.2 ⟨n, hm⟩] at hl; cases hl
 | rangeFunc => intro D D' h; simp [qH] at h
 | scope => intro D D' h; simp [qH] at h
 | goto => intro D D' h; simp [qH] at h
 | refuse => intro D D' h; simp [qH] at h
def C9 (D D' : Nat) : Bool := D ||| D' == D'
theorem RZ {D D' : Nat} (h : C9 D D' = true) : ∀ t, D'.testBit t = false → D.testBit t = false := by
 intro t ht
 unfold C9 at h
 have e : D ||| D' = D' := by simpa using h
 rw [← e, Nat.testBit_or, Bool.or_eq_false_iff] at ht
 exact ht.1
theorem au.le {D D' : Nat} {k : List Value → AH → Option R} (h : au D' k) (hs : C9 D D' = true) : au D k := fun A A' H hA => h A A' H (hA.mono (RZ hs))
def vO (c : Code) (D D' : Nat) : Bool := match qH c D with
 | some D1 => C9 D1 D'
 | none => false
theorem Vc {c : Code} {D D' : Nat} {kn : List Value → AH → Option R} {kx : Nat → List Value → AH → Option R} {kr : List Value → AH → Option R} (h : vO c D D' = true) (hn : au D' kn) (hx : ∀ i, au D (kx i)) (hr : au D kr) :
 au D (fun A H => aU P G call c A H kn kx kr) := by
 intro A A' H hA
 unfold vO at h
 split at h
 ·rename_i D1 h1
  simp only
  rw [tc, tc]
  have hb := Dp (P := P) (G := G) (call := call) h1 hA H
  generalize aN P G call c A H = u at hb
  generalize aN P G call c A' H = v at hb
  cases hb with
  | no => rfl
  | normal H1 hA1 => exact hn _ _ H1 (hA1.mono (RZ h))
  | exit i H1 hA1 => exact hx i _ _ H1 hA1
  | ret H1 hA1 => exact hr _ _ H1 hA1
 ·cases h
theorem Vd {c : Code} {D : Nat} {kx : Nat → List Value → AH → Option R} {kr : List Value → AH → Option R} (h : vO c D D = true) (hx : ∀ i, au D (kx i)) (hr : au D kr) :
 au D (fun A H => hF P G call c A H kx kr) := by
 intro A A' H hA
 unfold vO at h
 split at h
 ·rename_i D1 h1
  have hb := Dp (P := P) (G := G) (call := call) (c := .loop c) (D := D) (D' := D) (by simp only [qH, h1]) hA H
  simp only [aN] at hb
  simp only [hF]
  generalize od (aN P G call c) A H = u at hb
  generalize od (aN P G call c) A' H = v at hb
  cases hb with
  | no => rfl
  | normal H1 hA1 => rfl
  | exit i H1 hA1 => exact hx i _ _ H1 hA1
  | ret H1 hA1 => exact hr _ _ H1 hA1
 ·cases h
def Q6 (D : Nat) (rs : List ResultVar) : Bool := rs.all fun r => match r with
 | .tmp t => !D.testBit t
 | .cell a _ => !D.testBit a
theorem Ve {D : Nat} : ∀ {rs : List ResultVar} (_ : Q6 D rs = true) (k : List Value → AH → Option R), au D (fun A H => rk P A H rs fun vs => k vs H) := by
 intro rs
 induction rs with
 | nil => intro _ k A A' H hA; rfl
 | cons r rs ih =>
  intro h k A A' H hA
  unfold Q6 at h
  simp only [List.all_cons, Bool.and_eq_true] at h
  cases r with
  | tmp t =>
   simp only [Bool.not_eq_true'] at h
   simp only [rk]
   rw [hA.2 t h.1]
   exact ih h.2 (fun vs H => k ((A'[t]?.getD undef) :: vs) H) A A' H hA
  | cell a t =>
   simp only [Bool.not_eq_true'] at h
   simp only [rk]
   rw [hA.2 a h.1, Kz, Kz]
   congr 1
   funext g
   cases g <;> (simp only; congr 1; funext v; exact ih h.2 (fun vs H => k (v :: vs) H) A A' H hA)
theorem abZ {D : Nat} {rs : List ResultVar} (h : Q6 D rs = true) : au D (dR P rs) := Ve h fun vs H => some (tup vs, H)
theorem Vf {D : Nat} : au D (fun (_ : List Value) (_ : AH) => (none : Option R)) := fun _ _ _ _ => rfl
theorem NT {D id : Nat} {kn : List Value → AH → Option R} {kx : Nat → List Value → AH → Option R} (hn : au D kn) (hx : ∀ i, au D (kx i)) : ∀ i, au D (fun A H => if i = id then kn A H else kx i A H) := by
 intro i A A' H hA
 simp only
 split
 ·exact hn _ _ _ hA
 ·exact hx i _ _ _ hA
theorem B3 {D : Nat} {n : List Value → AH → Option R} (h : au D n) : au D (fun A H => n (clear D A) H) := by
 intro A A' H hA
 simp only
 rw [← h A (clear D A) H (gS D A), ← h A' (clear D A') H (gS D A')]
 exact h A A' H hA
variable {A : List Value} {H : AH} {kn : List Value → AH → Option R} {kx : Nat → List Value → AH → Option R} {kr : List Value → AH → Option R}
theorem aeJ {c x y : Code} {e : Operand} (h : c = .cond e x y) : aU P G call c A H kn kx kr = ax (eg A e) (aU P G call x A H kn kx kr) (aU P G call y A H kn kx kr) := by subst h; rfl
theorem HY {c x : Code} {id : Nat} (h : c = .block id x) {D : Nat} {n : Nat → List Value → AH → Option R} (hn : n = fun i A H => if i = id then kn A H else kx i A H) (hD : ∀ i, au D (n i)) :
 aU P G call c A H kn kx kr = aU P G call x A H kn (fun i A H => n i (clear D A) H) kr := by
 subst h
 have e : (fun i A H => n i (clear D A) H) = n := by
  funext i A H
  exact (hD i A (clear D A) H (gS D A)).symm
 rw [e, hn]; try rfl
theorem afO {c x : Code} (h : c = .loop x) : aU P G call c A H kn kx kr = hF P G call x A H kx kr := by subst h; rfl
theorem M9 {x : Code} {D : Nat} {n : List Value → AH → Option R} (hn : n = fun A H => hF P G call x A H kx kr) (hD : au D n) : hF P G call x A H kx kr = n (clear D A) H := by
 have := hD A (clear D A) H (gS D A)
 rw [← this, hn]
theorem M8 {x : Code} {D : Nat} {n : List Value → AH → Option R} (hn : n = fun A H => hF P G call x A H kx kr) (hD : au D n) :
 hF P G call x A H kx kr = aU P G call x A H (fun A H => n (clear D A) H) kx kr := by
 have e : (fun A H => n (clear D A) H) = n := by
  funext A H
  exact (hD A (clear D A) H (gS D A)).symm
 rw [e, hn]; exact WB ..
def Code.pre : Nat → Code → Code
 | 0, .seq x _ => x
 | k + 1, .seq x y => .seq x (Code.pre k y)
 | _, c => c
def Code.post : Nat → Code → Code
 | 0, .seq _ y => y
 | k + 1, .seq _ y => Code.post k y
 | _, _ => .skip
theorem ajA : ∀ (k : Nat) (c : Code) (A : List Value) (H : AH), aU P G call c A H kn kx kr = aU P G call (Code.pre k c) A H (fun A H => aU P G call (Code.post k c) A H kn kx kr) kx kr := by
 intro k
 induction k with
 | zero => intro c A H; cases c <;> rfl
 | succ k ih =>
  intro c A H
  cases c with
  | seq x y =>
   have e : (fun A H => aU P G call y A H kn kx kr) = fun A H => aU P G call (Code.pre k y) A H (fun A H => aU P G call (Code.post k y) A H kn kx kr) kx kr := by
    funext A H; exact ih y A H
   show aU P G call x A H (fun A H => aU P G call y A H kn kx kr) kx kr = _
   rw [e]; rfl
  | _ => rfl
variable {l T : Option R}
theorem ajB {c : Code} {k D : Nat} {n : List Value → AH → Option R} (h0 : l = aU P G call c A H kn kx kr) (hn : n = fun A H => aU P G call (Code.post k c) A H kn kx kr) (hD : au D n)
 (h1 : aU P G call (Code.pre k c) A H (fun A H => n (clear D A) H) kx kr = T) : l = T := by
 have e : (fun A H => n (clear D A) H) = n := by
  funext A H
  exact (hD A (clear D A) H (gS D A)).symm
 rw [e, hn] at h1
 exact h0.trans ((ajA k c A H).trans h1)
theorem WM {v v' : Value} {x x' y y' : Option R} (h : v = v') (hx : x = x') (hy : y = y') : ax v x y = ax v' x' y' := by rw [h, hx, hy]
theorem aeK {c x y : Code} {e : Operand} (h0 : l = aU P G call c A H kn kx kr) (h : c = .cond e x y) (h1 : ax (eg A e) (aU P G call x A H kn kx kr) (aU P G call y A H kn kx kr) = T) : l = T := h0.trans ((aeJ h).trans h1)
theorem Wz {c x : Code} {id D : Nat} {n : Nat → List Value → AH → Option R} (h0 : l = aU P G call c A H kn kx kr) (h : c = .block id x) (hn : n = fun i A H => if i = id then kn A H else kx i A H) (hD : ∀ i, au D (n i))
 (h1 : aU P G call x A H kn (fun i A H => n i (clear D A) H) kr = T) : l = T := h0.trans ((HY h hn hD).trans h1)
theorem afP {c x : Code} {D : Nat} {n : List Value → AH → Option R} (h0 : l = aU P G call c A H kn kx kr) (h : c = .loop x) (hn : n = fun A H => hF P G call x A H kx kr) (hD : au D n) (h1 : n (clear D A) H = T) : l = T :=
 h0.trans ((afO h).trans ((M9 hn hD).trans h1))
theorem afQ {x : Code} {D : Nat} {n : List Value → AH → Option R} (h0 : l = hF P G call x A H kx kr) (hn : n = fun A H => hF P G call x A H kx kr) (hD : au D n)
 (h1 : aU P G call x A H (fun A H => n (clear D A) H) kx kr = T) : l = T := h0.trans ((M8 hn hD).trans h1)
end
abbrev OV := Option (Value × AH)
abbrev u : Value := undef
abbrev KK := List Value → AH → OV
abbrev KX := Nat → List Value → AH → OV
noncomputable abbrev CK (P : Program) (G : List Nat) (call : bh) (c : Code) (kn : KK) (kx : KX) (kr : KK) : KK := fun A H => aU P G call c A H kn kx kr
noncomputable abbrev CL (P : Program) (G : List Nat) (call : bh) (c : Code) (kx : KX) (kr : KK) : KK := fun A H => hF P G call c A H kx kr
abbrev BX (id : Nat) (kn : KK) (kx : KX) : KX := fun i A H => if i = id then kn A H else kx i A H
abbrev dd (D : Nat) (n : KK) : KK := fun A H => n (clear D A) H
abbrev ml (D : Nat) (n : KX) : KX := fun i A H => n i (clear D A) H
def bq : KX := fun _ _ _ => none
def akK : Nat := 2 ^ 4096 - 1
def ls (l : List Value) (n : Nat) : List Value := l ++ List.replicate n u
section
variable {P : Program} {G : List Nat} {call : bh} {A : List Value} {H : AH} {kn : KK} {kx : KX} {kr : KK} {l T : OV}
theorem aB : ∀ i, au akK (bq i) := fun _ => Vf
theorem rf {rs : List ResultVar} {D : Nat} (h : Q6 D rs = true := by kernel_rfl) : au D (dR P rs) := abZ h
theorem rc {c : Code} {D Dn Dx Dr : Nat} (hn : au Dn kn) (hx : ∀ i, au Dx (kx i)) (hr : au Dr kr) (h : (vO c D Dn && (C9 D Dx && C9 D Dr)) = true := by kernel_rfl) : au D (CK P G call c kn kx kr) := by
 simp only [Bool.and_eq_true] at h
 exact Vc h.1 hn (fun i => (hx i).le h.2.1) (hr.le h.2.2)
theorem rl {c : Code} {D Dx Dr : Nat} (hx : ∀ i, au Dx (kx i)) (hr : au Dr kr) (h : (vO c D D && (C9 D Dx && C9 D Dr)) = true := by kernel_rfl) : au D (CL P G call c kx kr) := by
 simp only [Bool.and_eq_true] at h
 exact Vd h.1 (fun i => (hx i).le h.2.1) (hr.le h.2.2)
theorem rb {D id Dn Dx : Nat} (hn : au Dn kn) (hx : ∀ i, au Dx (kx i)) (h : (C9 D Dn && C9 D Dx) = true := by kernel_rfl) : ∀ i, au D (BX id kn kx i) := by
 simp only [Bool.and_eq_true] at h
 exact NT (hn.le h.1) (fun i => (hx i).le h.2)
theorem cd {D : Nat} {n : KK} (h : au D n) : au D (dd D n) := B3 h
theorem cx {D : Nat} {n : KX} (h : ∀ i, au D (n i)) : ∀ i, au D (ml D n i) := fun i => B3 (h i)
theorem pt {c : Code} {D : Nat} {n : KK} (h0 : l = aU P G call c A H kn kx kr) (k : Nat) (hD : au D n) (h1 : aU P G call (Code.pre k c) A H (dd D n) kx kr = T)
 (hn : n = fun A H => aU P G call (Code.post k c) A H kn kx kr := by kernel_rfl) : l = T := ajB h0 hn hD h1
theorem ct {c : Code} (h0 : l = aU P G call c A H kn kx kr) (x y : Code) (e : Operand) {v : Value} {X Y : OV} (hx : aU P G call x A H kn kx kr = X) (hy : aU P G call y A H kn kx kr = Y)
 (h : c = .cond e x y := by kernel_rfl) (he : eg A e = v := by kernel_rfl) : l = ax v X Y := aeK h0 h (WM he hx hy)
theorem bt {c : Code} {D : Nat} {n : KX} (h0 : l = aU P G call c A H kn kx kr) (x : Code) (id : Nat) (hD : ∀ i, au D (n i)) (h1 : aU P G call x A H kn (ml D n) kr = T)
 (h : c = .block id x := by kernel_rfl) (hn : n = fun i A H => if i = id then kn A H else kx i A H := by kernel_rfl) : l = T := Wz h0 h hn hD h1
theorem li {c : Code} {D : Nat} {n : KK} (h0 : l = aU P G call c A H kn kx kr) (x : Code) (hD : au D n) (h1 : n (clear D A) H = T) (h : c = .loop x := by kernel_rfl)
 (hn : n = fun A H => hF P G call x A H kx kr := by kernel_rfl) : l = T := afP h0 h hn hD h1
theorem rG {x : Code} {D : Nat} {n : KK} (h0 : l = hF P G call x A H kx kr) (hD : au D n) (h1 : aU P G call x A H (dd D n) kx kr = T)
 (hn : n = fun A H => hF P G call x A H kx kr := by kernel_rfl) : l = T := afQ h0 hn hD h1
theorem ht' {id : Nat} (h0 : l = BX id kn kx id A H) (h1 : kn A H = T) : l = T := by rw [h0, ← h1]; simp [BX]
theorem fo {f : Nat} {fn : Func} (hf : P.funcs[f]? = some fn) {args : List Value} {t : OV} {r : Value × AH} (e : O2 P G (aF P G) fn.ntmps fn.results.toList (bG fn) args H = t) (h : t = some r)
 (hb : fn.body.isSome = true := by kernel_rfl) (hn : (fn.name == "runtime.NumGoroutine") = false := by kernel_rfl) (hd : jI (bG fn) = none := by kernel_rfl) : aF P G f args H = some r := KW hf hb hn hd (e.trans h)
end
end Go.Proofs.YtodpbobjmkhcfaaGreatDoor.Gst
namespace Go.Proofs.YtodpbobjmkhcfaaGreatDoor.Gst
open Go Go.RowKit Go.ChangeShapes
set_option linter.unusedSimpArgs false
def eu (H H' : AH) : Prop := H.size ≤ H'.size ∧ ∀ b, b < H.size → H'.get b = H.get b
theorem eu.refl (H : AH) : eu H H := ⟨Nat.le_refl _, fun _ _ => rfl⟩
theorem eu.trans {A B C : AH} (h : eu A B) (k : eu B C) : eu A C := ⟨Nat.le_trans h.1 k.1, fun b hb => by rw [k.2 b (by have := h.1; omega), h.2 b hb]⟩
theorem eu.push (H : AH) (o : AObj) : eu H (H.push o) := ⟨by rw [AH.size_push]; omega, fun b hb => AH.get_push_old hb⟩
theorem eu.get {H H' : AH} (h : eu H H') {b : Nat} {o : AObj} (hb : H.get b = some o) : H'.get b = some o := by rw [h.2 b (AH.lt_of_get hb)]; exact hb
inductive Ty where
 | int (k : IntKind)
 | bool
 | slice (t : Ty)
 | unit
 | pair (a b : Ty)
def Ty.w : Ty → Nat
 | .int _ | .bool | .slice _ => 1
 | .unit => 0
 | .pair a b => a.w + b.w
abbrev Ty.I : Ty → Type
 | .int _ => Int
 | .bool => Bool
 | .slice t => List t.I
 | .unit => Unit
 | .pair a b => a.I × b.I
inductive iN {α : Type} (R : α → List Value → Prop) : List α → List Value → Prop
 | nil : iN R [] []
 | cons {x : α} {l : List α} {c cs : List Value} (h : R x c) (k : iN R l cs) : iN R (x :: l) (c ++ cs)
def Abs (H : AH) : (t : Ty) → t.I → List Value → Prop
 | .int k, n, cs => cs = [.int k n] ∧ (Lit.int k n).wf = true
 | .bool, b, cs => cs = [.bool b]
 | .unit, _, cs => cs = []
 | .pair a b, x, cs => ∃ c1 c2, cs = c1 ++ c2 ∧ Abs H a x.1 c1 ∧ Abs H b x.2 c2
 | .slice t, l, cs => (l = [] ∧ cs = [.slice none 0 0]) ∨ (l = [] ∧ ∃ b, cs = [.slice (some ⟨b, 0, none⟩) 0 0]) ∨
  ∃ b row, H.get b = some (.cells true row) ∧ cs = [.slice (some ⟨b, 0, none⟩) l.length t.w] ∧ iN (Abs H t) l row ∧ l.length ≤ maxLen
theorem iN.mono {α : Type} {R S : α → List Value → Prop} (h : ∀ x c, R x c → S x c) {l : List α} {cs : List Value} (k : iN R l cs) : iN S l cs := by
 induction k with
 | nil => exact .nil
 | cons h1 _ ih => exact .cons (h _ _ h1) ih
theorem Abs.keep {H H' : AH} (k : eu H H') : ∀ (t : Ty) (x : t.I) (cs : List Value), Abs H t x cs → Abs H' t x cs := by
 intro t
 induction t with
 | int k => intro x cs h; exact h
 | bool => intro x cs h; exact h
 | unit => intro x cs h; exact h
 | pair a b iha ihb =>
  intro x cs h
  obtain ⟨c1, c2, e, h1, h2⟩ := h
  exact ⟨c1, c2, e, iha _ _ h1, ihb _ _ h2⟩
 | slice t ih =>
  intro x cs h
  rcases h with h | h | ⟨b, row, h1, h2, h3, h4⟩
  ·exact .inl h
  ·exact .inr (.inl h)
  ·exact .inr (.inr ⟨b, row, k.get h1, h2, h3.mono ih, h4⟩)
theorem iN.length {α : Type} {R : α → List Value → Prop} {n : Nat} (h : ∀ x c, R x c → c.length = n) {l : List α} {cs : List Value} (k : iN R l cs) : cs.length = l.length * n := by
 induction k with
 | nil => simp
 | cons h1 _ ih => rw [List.length_append, h _ _ h1, ih, List.length_cons, Nat.add_mul]; omega
theorem Abs.length {H : AH} : ∀ (t : Ty) (x : t.I) (cs : List Value), Abs H t x cs → cs.length = t.w := by
 intro t
 induction t with
 | int k => intro x cs h; rw [h.1]; rfl
 | bool => intro x cs h; have h : cs = _ := h; rw [h]; rfl
 | unit => intro x cs h; have h : cs = _ := h; rw [h]; rfl
 | pair a b iha ihb =>
  intro x cs h
  obtain ⟨c1, c2, e, h1, h2⟩ := h
  rw [e, List.length_append, iha _ _ h1, ihb _ _ h2]; rfl
 | slice t ih =>
  intro x cs h
  rcases h with h | ⟨_, b, h⟩ | ⟨b, row, h1, h2, h3, h4⟩
  ·rw [h.2]; rfl
  ·rw [h]; rfl
  ·rw [h2]; rfl
def zq : (t : Ty) → t.I → Prop
 | .int _, _ => True
 | .bool, _ => True
 | .unit, _ => True
 | .pair a b, x => zq a x.1 ∧ zq b x.2
 | .slice t, l => l.length ≤ reachBytes ∧ ∀ x ∈ l, zq t x
def wOK {Hd : Type} (P : Program) (t : TypeId) (d : DataW Hd) : Prop := ∀ n ∈ DataW.weights P t d, n ≤ reachBytes
theorem p6 {Hd : Type} {P : Program} {e : TypeId} {d : DataW Hd} {n : Nat} : ∀ {l : List (DataW Hd)}, d ∈ l → n ∈ DataW.weights P e d → n ∈ DataW.weightsAll P e l := by
 intro l
 induction l with
 | nil => intro h; cases h
 | cons x l ih =>
  intro h hn
  rw [DataW.weightsAll, List.mem_append]
  rcases List.mem_cons.1 h with rfl | h
  ·exact .inl hn
  ·exact .inr (ih h hn)
theorem yF {Hd : Type} {P : Program} {n : Nat} : ∀ {ts : List TypeId} {ds : List (DataW Hd)} {i : Nat} {t : TypeId} {d : DataW Hd}, ts[i]? = some t → ds[i]? = some d → n ∈ DataW.weights P t d → n ∈ DataW.weightsEach P ts ds := by
 intro ts
 induction ts with
 | nil => intro ds i t d h; simp at h
 | cons t0 ts ih =>
  intro ds i t d h1 h2 hn
  cases ds with
  | nil => simp at h2
  | cons d0 ds =>
   rw [DataW.weightsEach, List.mem_append]
   cases i with
   | zero =>
    simp at h1 h2
    subst h1; subst h2
    exact .inl hn
   | succ i => exact .inr (ih (by simpa using h1) (by simpa using h2) hn)
def oF (P : Program) : Ty → (TypeId → Bool) × (List Field → Nat → Bool)
 | .int k => (fun t => match P.underlying t with | some (.int k') => k' == k && P.cellsOf t == 1 | _ => false, fun _ _ => false)
 | .bool => (fun t => match P.underlying t with | some .bool => P.cellsOf t == 1 | _ => false, fun _ _ => false)
 | .slice ty => (fun t => match P.underlying t with | some (.slice e) => (oF P ty).1 e && P.cellsOf e == ty.w && decide (0 < ty.w ∧ 0 < P.bytesOf e) && P.cellsOf t == 1 | _ => false, fun _ _ => false)
 | .unit => (fun _ => false, fun fs _ => fs.isEmpty)
 | .pair a b =>
  let F : List Field → Nat → Bool := fun fs off => match fs with
   | f :: fs => f.offset == off && (oF P a).1 f.type && P.cellsOf f.type == a.w && (oF P b).2 fs (off + a.w)
   | [] => false
  (fun t => match P.underlying t with | some (.struct fs) => P.cellsOf t == a.w + b.w && F fs.toList 0 | _ => false, F)
section
variable {Hd : Type} {enc : TypeId × Value → Hd} {P : Program} {w : World} {held : Bool}
theorem Rel.pushRo {B : Nat} {w0 : World} {ρ : bv} {H : AH} (h : Rel P w0 B ρ H w) {row : List Value} {c d sz : Nat} (hc : c < w.heap.size) (hcB : c < B) (hor : oN P ρ d sz (.cells true row) w.heap[c]?) :
 Rel P w0 B (ρ.upd H.size (c, d, sz)) (H.push (.cells true row)) w := by
 have hnone : ρ H.size = none := by
  cases hn : ρ H.size with
  | none => rfl
  | some x => have := h.dom _ _ hn; omega
 have hle := bv.upd_le (x := (c, d, sz)) hnone
 have key : ∀ b1 o1, (H.push (.cells true row)).get b1 = some o1 → (b1 = H.size ∧ o1 = .cells true row) ∨ (b1 < H.size ∧ H.get b1 = some o1) := by
  intro b1 o1 h1
  rw [AH.get_push] at h1
  by_cases hb1 : b1 = H.size
  ·rw [if_pos hb1] at h1; exact .inl ⟨hb1, (Option.some.inj h1).symm⟩
  ·rw [if_neg hb1] at h1; exact .inr ⟨AH.lt_of_get h1, h1⟩
 have old : ∀ {b1 c1 d1 sz1}, b1 < H.size → ρ.upd H.size (c, d, sz) b1 = some (c1, d1, sz1) → ρ b1 = some (c1, d1, sz1) := by
  intro b1 c1 d1 sz1 hb1 hx
  rwa [bv.upd_ne (by omega)] at hx
 have new : ∀ {c1 d1 sz1}, ρ.upd H.size (c, d, sz) H.size = some (c1, d1, sz1) → c1 = c ∧ d1 = d ∧ sz1 = sz := by
  intro c1 d1 sz1 hx
  rw [bv.upd_same] at hx
  cases hx
  exact ⟨rfl, rfl, rfl⟩
 refine ⟨h.base, h.below, ?_, ?_, ?_, ?_, ?_, ?_⟩
 ·intro b1 x hx
  rw [AH.size_push]
  by_cases hb1 : b1 = H.size
  ·omega
  ·rw [bv.upd_ne hb1] at hx; have := h.dom b1 x hx; omega
 ·intro b1 c1 d1 sz1 hx
  by_cases hb1 : b1 = H.size
  ·subst hb1
   obtain ⟨rfl, _, _⟩ := new hx
   exact hc
  ·rw [bv.upd_ne hb1] at hx; exact h.blk b1 c1 d1 sz1 hx
 ·intro b1 c1 d1 sz1 o1 hx h1
  rcases key b1 o1 h1 with ⟨rfl, rfl⟩ | ⟨hb1, h1⟩
  ·obtain ⟨rfl, rfl, rfl⟩ := new hx
   exact hor.mono hle
  ·exact (h.obj b1 c1 d1 sz1 o1 (old hb1 hx) h1).mono hle
 ·intro b1 c1 d1 sz1 o1 hx h1 hrw
  rcases key b1 o1 h1 with ⟨rfl, rfl⟩ | ⟨hb1, h1⟩
  ·cases hrw
  ·exact h.own b1 c1 d1 sz1 o1 (old hb1 hx) h1 hrw
 ·intro b1 c1 d1 sz1 cs1 hx h1
  rcases key b1 _ h1 with ⟨rfl, _⟩ | ⟨hb1, h1⟩
  ·obtain ⟨rfl, _, _⟩ := new hx
   exact hcB
  ·exact h.ro b1 c1 d1 sz1 cs1 (old hb1 hx) h1
 ·intro b1 b2 c1 d1 d2 sz1 sz2 o1 o2 hx1 hx2 h1 h2 hr1 hr2
  rcases key b1 o1 h1 with ⟨rfl, rfl⟩ | ⟨hb1, h1⟩
  ·cases hr1
  ·rcases key b2 o2 h2 with ⟨rfl, rfl⟩ | ⟨hb2, h2⟩
   ·cases hr2
   ·exact h.inj b1 b2 c1 d1 d2 sz1 sz2 o1 o2 (old hb1 hx1) (old hb2 hx2) h1 h2 hr1 hr2
theorem J5 {B : Nat} {w0 : World} {ρ : bv} {H : AH} (h : Rel P w0 B ρ H w) (x : Nat × Nat × Nat) : ∀ b y, ρ b = some y → ρ.upd H.size x b = some y :=
 bv.upd_le (by
  cases hn : ρ H.size with
  | none => rfl
  | some x => have := h.dom _ _ hn; omega)
def Got (P : Program) (w : World) (ρ : bv) (H : AH) (ty : Ty) (cs : List Value) (ρ' : bv) (H' : AH) : Prop :=
 ∃ x avs, Rel P w w.heap.size ρ' H' w ∧ (∀ b y, ρ b = some y → ρ' b = some y) ∧ eu H H' ∧ LRel P ρ' avs cs ∧ Abs H' ty x avs ∧ zq ty x
theorem wA {fuel : Nat} {t : TypeId} {cs : List Value} {x : DataW Hd × List MemPlace} (h : DataW.trod enc P w 0 (fun _ => true) held fuel t cs = some x) : ∃ n, fuel = n + 1 := by
 cases fuel with
 | zero => simp [DataW.trod] at h
 | succ n => exact ⟨n, rfl⟩
theorem RA {ty : Ty} {e : TypeId} {n : Nat} (ih : ∀ (cs : List Value) (x : DataW Hd × List MemPlace) (ρ : bv) (H : AH), Rel P w w.heap.size ρ H w → DataW.trod enc P w 0 (fun _ => true) held n e cs = some x → wOK P e x.1 → ∃ ρ' H', Got P w ρ H ty cs ρ' H')
 (a : Addr) : ∀ (m i : Nat) (ρ : bv) (H : AH), Rel P w w.heap.size ρ H w → (∀ j, i ≤ j → j < i + m → ∃ y, (w.cells? 0 (a.add (j * ty.w)) ty.w).bind (DataW.trod enc P w 0 (fun _ => true) held n e) = some y ∧ wOK P e y.1) →
  ∃ ρ' H' l row cc, Rel P w w.heap.size ρ' H' w ∧ (∀ b y, ρ b = some y → ρ' b = some y) ∧ eu H H' ∧ l.length = m ∧ iN (Abs H' ty) l row ∧ LRel P ρ' row cc ∧ (∀ k, k < m * ty.w → w.cell? (a.add (i * ty.w + k)) = cc[k]?) ∧ cc.length = m * ty.w ∧ ∀ x ∈ l, zq ty x := by
 intro m
 induction m with
 | zero =>
  intro i ρ H hR _
  exact ⟨ρ, H, [], [], [], hR, fun _ _ h => h, eu.refl H, rfl, .nil, LRel.nil, fun k hk => by omega, by simp, fun x hx => by cases hx⟩
 | succ m ihm =>
  intro i ρ H hR hel
  obtain ⟨y, hy, hwy⟩ := hel i (Nat.le_refl _) (by omega)
  obtain ⟨cs, hcs, hy⟩ := Option.bind_eq_some_iff.1 hy
  obtain ⟨ρ1, H1, x, avs, hR1, hle1, hk1, hl1, ha1, hs1⟩ := ih cs y ρ H hR hy hwy
  obtain ⟨ρ2, H2, l, row, cc, hR2, hle2, hk2, hlen, hrow, hl2, hcell, hcl, hs2⟩ := ihm (i + 1) ρ1 H1 hR1 (fun j h1 h2 => hel j (by omega) (by omega))
  obtain ⟨_, hcsl, hcsg⟩ := World.cells?_some hcs
  refine ⟨ρ2, H2, x :: l, avs ++ row, cs ++ cc, hR2, fun b y h => hle2 b y (hle1 b y h), hk1.trans hk2, by simp [hlen], .cons (Abs.keep hk2 ty x avs ha1) hrow, (hl1.mono hle2).append hl2, ?_, ?_, ?_⟩
  ·intro k hk
   have hmul : (m + 1) * ty.w = ty.w + m * ty.w := by rw [Nat.add_mul]; omega
   have hmul2 : (i + 1) * ty.w = i * ty.w + ty.w := by rw [Nat.add_mul]; omega
   by_cases hkw : k < ty.w
   ·rw [List.getElem?_append_left (by omega), ← hcsg k hkw]
    congr 1
    unfold Addr.add
    repeat' split
    all_goals first | rfl | omega | (simp; done) | (simp; omega)
   ·rw [List.getElem?_append_right (by omega), hcsl, ← hcell (k - ty.w) (by omega), hmul2]
    congr 2
    omega
  ·rw [List.length_append, hcsl, hcl, Nat.add_mul]; omega
  ·intro z hz
   rcases List.mem_cons.1 hz with rfl | hz
   ·exact hs1
   ·exact hs2 z hz
theorem adA : ∀ (ty : Ty),
 (∀ (t : TypeId), (oF P ty).1 t = true → ∀ (fuel : Nat) (cs : List Value) (x : DataW Hd × List MemPlace) (ρ : bv) (H : AH), Rel P w w.heap.size ρ H w → DataW.trod enc P w 0 (fun _ => true) held fuel t cs = some x → wOK P t x.1 → ∃ ρ' H', Got P w ρ H ty cs ρ' H') ∧
 (∀ (fs : List Field) (off : Nat), (oF P ty).2 fs off = true → ∀ (fuel : Nat) (cs : List Value) (ρ : bv) (H : AH), Rel P w w.heap.size ρ H w → cs.length = off + ty.w →
  (∀ f ∈ fs, ∃ y, DataW.trod enc P w 0 (fun _ => true) held fuel f.type ((cs.drop f.offset).take (P.cellsOf f.type)) = some y ∧ wOK P f.type y.1) → ∃ ρ' H', Got P w ρ H ty (cs.drop off) ρ' H') := by
 intro ty
 induction ty with
 | int k =>
  refine ⟨?_, fun fs off h => by cases h⟩
  intro t ht fuel cs x ρ H hR h hwx
  obtain ⟨n, rfl⟩ := wA h
  simp only [oF] at ht
  split at ht
  ·rename_i k' hu
   simp only [Bool.and_eq_true, beq_iff_eq] at ht
   obtain ⟨rfl, _⟩ := ht
   obtain ⟨n, rfl, _, hw⟩ := DataW.trod_int hu h
   exact ⟨ρ, H, n, [.int k' n], hR, fun _ _ h => h, eu.refl H, LRel.of_all rfl, ⟨rfl, hw⟩, trivial⟩
  ·cases ht
 | bool =>
  refine ⟨?_, fun fs off h => by cases h⟩
  intro t ht fuel cs x ρ H hR h hwx
  obtain ⟨n, rfl⟩ := wA h
  simp only [oF] at ht
  split at ht
  ·rename_i hu
   obtain ⟨b, rfl, _⟩ := DataW.trod_bool hu h
   exact ⟨ρ, H, b, [.bool b], hR, fun _ _ h => h, eu.refl H, LRel.of_all rfl, rfl, trivial⟩
  ·cases ht
 | unit =>
  refine ⟨fun t h => by (cases h), ?_⟩
  intro fs off hfs fuel cs ρ H hR hl h
  refine ⟨ρ, H, (), [], hR, fun _ _ h => h, eu.refl H, ?_, rfl, trivial⟩
  have : cs.drop off = [] := List.drop_eq_nil_of_le (by simp [Ty.w] at hl; omega)
  rw [this]; exact LRel.nil
 | slice ty ih =>
  refine ⟨?_, fun fs off h => by cases h⟩
  intro t ht fuel cs x ρ H hR h hwx
  simp only [oF] at ht
  split at ht
  ·rename_i e hu
   simp only [Bool.and_eq_true, beq_iff_eq, decide_eq_true_eq] at ht
   obtain ⟨⟨⟨ht, he⟩, hw, hby⟩, _⟩ := ht
   rcases DataW.trod_slice hu h with ⟨rfl, _⟩ | ⟨a, len, cap, elems, rest, n, rfl, rfl, hx, _, hlc, hcm, hlen, hel, hsp, _⟩
   ·exact ⟨ρ, H, [], [.slice none 0 0], hR, fun _ _ h => h, eu.refl H, LRel.of_all rfl, .inl ⟨rfl, rfl⟩, Nat.zero_le _, fun x hx => by cases hx⟩
   ·have hwt : DataW.weights P t x.1 = (elems.length + rest.length) * P.bytesOf e :: (DataW.weightsAll P e (elems.map (·.1)) ++ DataW.weightsAll P e (rest.map (·.1))) := by
     rw [hx]
     unfold DataW.weights
     rw [hu]
     simp
    have hreach : len ≤ reachBytes := by
     have h1 := hwx _ (by rw [hwt]; exact List.mem_cons_self)
     have h2 : len + rest.length ≤ (elems.length + rest.length) * P.bytesOf e := by
      rw [hlen]
      exact Nat.le_mul_of_pos_right _ hby
     omega
    have hwe : ∀ (y : DataW Hd × List MemPlace), (y ∈ elems ∨ y ∈ rest) → wOK P e y.1 := by
     intro y hy n hn
     refine hwx n ?_
     rw [hwt, List.mem_cons, List.mem_append]
     rcases hy with hy | hy
     ·exact .inr (.inl (p6 (List.mem_map.2 ⟨y, hy, rfl⟩) hn))
     ·exact .inr (.inr (p6 (List.mem_map.2 ⟨y, hy, rfl⟩) hn))
    rw [he] at hel hsp
    by_cases hc0 : cap = 0
    ·subst hc0
     obtain rfl : len = 0 := by omega
     exact ⟨ρ, H, [], [.slice (some ⟨0, 0, none⟩) 0 0], hR, fun _ _ h => h, eu.refl H, LRel.cons .empty LRel.nil, .inr (.inl ⟨rfl, 0, rfl⟩), Nat.zero_le _, fun x hx => by cases hx⟩
    ·have all : ∀ j, 0 ≤ j → j < 0 + cap → ∃ y, (w.cells? 0 (a.add (j * ty.w)) ty.w).bind (DataW.trod enc P w 0 (fun _ => true) held n e) = some y ∧ wOK P e y.1 := by
      intro j _ hj
      by_cases hjl : j < len
      ·rw [hel j hjl]
       exact ⟨elems[j]'(by omega), List.getElem?_eq_getElem (by omega), hwe _ (.inl (List.getElem_mem _))⟩
      ·obtain ⟨hr1, hr2⟩ := hsp rfl
       have := hr2 (j - len) (by omega)
       rw [show len + (j - len) = j from by omega] at this
       rw [this]
       exact ⟨rest[j - len]'(by omega), List.getElem?_eq_getElem (by omega), hwe _ (.inr (List.getElem_mem _))⟩
     -- all cells of its cp are there
     obtain ⟨_, _, _, _, cca, _, _, _, _, _, _, hca, hcal, _⟩ := RA (fun cs x ρ H => ih.1 e ht n cs x ρ H) a cap 0 ρ H hR all
     obtain ⟨ρ1, H1, l, row, cc, hR1, hle1, hk1, hll, hrow, hl1, hcell, hcl, hsm⟩ := RA (fun cs x ρ H => ih.1 e ht n cs x ρ H) a len 0 ρ H hR (fun j h1 h2 => all j h1 (by omega))
     have hpos : 0 < cap * ty.w := Nat.mul_pos (by omega) hw
     have h0 := hca 0 hpos
     have hsome : ∃ v, cca[0]? = some v := ⟨cca[0]'(by omega), List.getElem?_eq_getElem (by omega)⟩
     obtain ⟨v0, hv0⟩ := hsome
     rw [hv0] at h0
     have hadd0 : a.add (0 * ty.w + 0) = a := by simp [Addr.add]
     rw [hadd0] at h0
     unfold World.cell? at h0
     split at h0
     ·rename_i c el fz hblk
      split at h0
      ·cases h0
      ·rename_i hspot
       obtain ⟨ab, ao, as'⟩ := a
       have : as' = none := by cases as' with | none => rfl | some _ => simp at hspot
       subst this
       have cellsAt : ∀ k, k < cap * ty.w → c[ao + k]? = cca[k]? := by
        intro k hk
        have := hca k hk
        rw [show 0 * ty.w + k = k from by omega, Addr.add_lit] at this
        unfold World.cell? at this
        simp only [hblk, Option.isSome_none] at this
        simpa using this
       have hfit : ao + cap * ty.w ≤ c.size := by
        have := cellsAt (cap * ty.w - 1) (by omega)
        rw [List.getElem?_eq_getElem (by omega)] at this
        have := (Array.getElem?_eq_some_iff.1 this).1
        omega
       have hsub : len * ty.w ≤ cap * ty.w := Nat.mul_le_mul_right _ hlc
       have hrl : row.length = len * ty.w := by rw [hl1.1, hcl]
       have hccs : (c.toList.drop ao).take row.length = cc := by
        apply List.ext_getElem?
        intro k
        rw [hrl, List.getElem?_take]
        by_cases hk : k < len * ty.w
        ·rw [if_pos hk, List.getElem?_drop]
         have h1 := hcell k hk
         rw [show 0 * ty.w + k = k from by omega, Addr.add_lit] at h1
         unfold World.cell? at h1
         simp only [hblk, Option.isSome_none] at h1
         rw [← h1]
         simp
        ·rw [if_neg hk, List.getElem?_eq_none (by omega)]
       have hblk' : w.heap[ab]? = some (.cells c el fz) := hblk
       have hab : ab < w.heap.size := (Array.getElem?_eq_some_iff.1 hblk').1
       have hp := hR1.pushRo (row := row) (c := ab) (d := ao) (sz := c.size) hab hab ⟨c, el, fz, hblk', rfl, by omega, (fun h => by cases h), by rw [hccs]; exact hl1⟩
       have hkp := eu.push H1 (.cells true row)
       refine ⟨_, _, l, [.slice (some ⟨H1.size, 0, none⟩) l.length ty.w], hp, fun b y h => J5 hR1 _ b y (hle1 b y h), hk1.trans hkp, LRel.cons ?_ LRel.nil, .inr (.inr ⟨H1.size, row, AH.get_push_new _ _, rfl, hrow.mono (Abs.keep hkp ty), by omega⟩), by rw [hll]; exact hreach, hsm⟩
       rw [hll]
       have := VRel.slice (P := P) (ρ := ρ1.upd H1.size (ab, ao, c.size)) (b := H1.size) (o := 0) (n := len) (e := ty.w) (c := ab) (d := ao) (sz := c.size) (k := cap) (bv.upd_same ..) (by omega) hlc hw
       simpa using this
     ·cases h0
  ·cases ht
 | pair a b iha ihb =>
  have fields : ∀ (fs : List Field) (off : Nat), (oF P (.pair a b)).2 fs off = true → ∀ (fuel : Nat) (cs : List Value) (ρ : bv) (H : AH), Rel P w w.heap.size ρ H w → cs.length = off + (a.w + b.w) →
   (∀ f ∈ fs, ∃ y, DataW.trod enc P w 0 (fun _ => true) held fuel f.type ((cs.drop f.offset).take (P.cellsOf f.type)) = some y ∧ wOK P f.type y.1) → ∃ ρ' H', Got P w ρ H (.pair a b) (cs.drop off) ρ' H' := by
   intro fs off hfs fuel cs ρ H hR hl h
   simp only [oF] at hfs
   cases fs with
   | nil => cases hfs
   | cons f fs =>
    simp only [Bool.and_eq_true, beq_iff_eq] at hfs
    obtain ⟨⟨⟨h1, h2⟩, h3⟩, h4⟩ := hfs
    obtain ⟨y, hy, hwy⟩ := h f (by simp)
    rw [h1, h3] at hy
    obtain ⟨ρ1, H1, x1, a1, hR1, hle1, hk1, hl1, ha1, hs1⟩ := iha.1 f.type h2 fuel _ y ρ H hR hy hwy
    obtain ⟨ρ2, H2, x2, a2, hR2, hle2, hk2, hl2, ha2, hs2⟩ := ihb.2 fs (off + a.w) h4 fuel cs ρ1 H1 hR1 (by omega) (fun g hg => h g (by simp [hg]))
    refine ⟨ρ2, H2, (x1, x2), a1 ++ a2, hR2, fun b y h => hle2 b y (hle1 b y h), hk1.trans hk2, ?_, ⟨a1, a2, rfl, Abs.keep hk2 a x1 a1 ha1, ha2⟩, hs1, hs2⟩
    have e : cs.drop off = (cs.drop off).take a.w ++ cs.drop (off + a.w) := by
     rw [← List.drop_drop]
     exact (List.take_append_drop a.w (cs.drop off)).symm
    rw [e]
    exact (hl1.mono hle2).append hl2
  refine ⟨?_, fields⟩
  intro t ht fuel cs x ρ H hR h hwx
  obtain ⟨n, rfl⟩ := wA h
  have ht' := ht
  simp only [oF] at ht
  split at ht
  ·rename_i fs hu
   simp only [Bool.and_eq_true, beq_iff_eq] at ht
   obtain ⟨xs, n', _, hxe, hlen, hxl, hxs⟩ := DataW.trod_struct hu h
   have := fields fs.toList 0 ht.2 n' cs ρ H hR (by rw [hlen, ht.1]; simp) (fun f hf => by
    obtain ⟨i, hi, rfl⟩ := List.mem_iff_getElem.1 hf
    have := hxs i fs.toList[i] (by simp)
    rw [this]
    have hix : i < xs.length := by rw [hxl]; simpa using hi
    refine ⟨xs[i]'hix, List.getElem?_eq_getElem _, fun n hn => hwx n ?_⟩
    rw [hxe]
    unfold DataW.weights
    rw [hu]
    exact yF (i := i) (by rw [List.getElem?_map, List.getElem?_eq_getElem hi]; rfl) (by rw [List.getElem?_map, List.getElem?_eq_getElem hix]; rfl) hn)
   simpa using this
  ·cases ht
end
def valOf : Ty → List Value → Value
 | .pair _ _, cs => .agg cs.toArray
 | .unit, cs => .agg cs.toArray
 | _, cs => cs.headD undef
abbrev Wj : List Ty → Type
 | [] => Unit
 | t :: ts => t.I × Wj ts
def p7 (H : AH) : (ts : List Ty) → Wj ts → List Value → Prop
 | [], _, vs => vs = []
 | t :: ts, x, vs => ∃ cs rest, vs = valOf t cs :: rest ∧ Abs H t x.1 cs ∧ p7 H ts x.2 rest
theorem p7.keep {H H' : AH} (k : eu H H') : ∀ (ts : List Ty) (x : Wj ts) (vs : List Value), p7 H ts x vs → p7 H' ts x vs := by
 intro ts
 induction ts with
 | nil => intro x vs h; exact h
 | cons t ts ih =>
  intro x vs h
  obtain ⟨cs, rest, e, h1, h2⟩ := h
  exact ⟨cs, rest, e, Abs.keep k t _ _ h1, ih _ _ h2⟩
def u0 : (ts : List Ty) → Wj ts → Prop
 | [], _ => True
 | t :: ts, x => zq t x.1 ∧ u0 ts x.2
def qi (P : Program) : List Ty → List TypeId → Bool
 | [], [] => true
 | ty :: tys, t :: ts => (oF P ty).1 t && P.readableRec t && decide (t < P.types.size) && qi P tys ts
 | _, _ => false
section
variable {Hd : Type} {enc : TypeId × Value → Hd} {P : Program} {w : World} {held : Bool}
theorem aeE {ty : Ty} {t : TypeId} (ht : (oF P ty).1 t = true) {v : Value} {d : DataW Hd} {ps : List MemPlace} {r : Reach} {b0 : Nat} (hval : Value.okWide P w r b0 t v) (h : DataW.Trod enc P w 0 (fun _ => true) held t v d ps) (hwd : wOK P t d)
 {ρ : bv} {H : AH} (hR : Rel P w w.heap.size ρ H w) : ∃ ρ' H' x avs, Rel P w w.heap.size ρ' H' w ∧ (∀ b y, ρ b = some y → ρ' b = some y) ∧ eu H H' ∧ VRel P ρ' (valOf ty avs) v ∧ Abs H' ty x avs ∧ zq ty x := by
 obtain ⟨fuel, h⟩ := h
 obtain ⟨ρ', H', x, avs, h1, h2, h3, h4, h5, h6⟩ := (adA (enc := enc) (P := P) (w := w) (held := held) ty).1 t ht fuel _ _ ρ H hR h hwd
 refine ⟨ρ', H', x, avs, h1, h2, h3, ?_, h5, h6⟩
 have hlen := Abs.length ty x avs h5
 have one : ∀ (hw : ty.w = 1) (hva : ∀ cs, v ≠ .agg cs), VRel P ρ' (avs.headD undef) v := by
  intro hw hva
  have hc : v.cells.toList = [v] := by
   cases v <;> first | rfl | exact absurd rfl (hva _)
  rw [hc] at h4
  match avs, hlen with
  | [a], _ => exact h4.2 0 a v rfl rfl
  | [], hl => rw [hw] at hl; cases hl
  | a :: b :: l, hl => rw [hw] at hl; simp at hl
 cases ty with
 | int k =>
  refine one rfl (fun cs e => ?_)
  subst e
  simp only [oF] at ht
  split at ht
  ·rename_i hu
   unfold Value.okWide at hval
   rw [hu] at hval
   unfold Cell.okWide at hval
   rw [hu] at hval
   unfold Cell.ok at hval
   rw [hu] at hval
   exact hval
  ·cases ht
 | bool =>
  refine one rfl (fun cs e => ?_)
  subst e
  simp only [oF] at ht
  split at ht
  ·rename_i hu
   unfold Value.okWide at hval
   rw [hu] at hval
   unfold Cell.okWide at hval
   rw [hu] at hval
   unfold Cell.ok at hval
   rw [hu] at hval
   exact hval
  ·cases ht
 | slice e =>
  refine one rfl (fun cs e => ?_)
  subst e
  simp only [oF] at ht
  split at ht
  ·rename_i hu
   unfold Value.okWide at hval
   rw [hu] at hval
   unfold Cell.okWide at hval
   rw [hu] at hval
   unfold Cell.ok at hval
   rw [hu] at hval
   exact hval
  ·cases ht
 | unit => simp only [oF] at ht; cases ht
 | pair a b =>
  simp only [oF] at ht
  split at ht
  ·rename_i fs hu
   unfold Value.okWide at hval
   rw [hu] at hval
   obtain ⟨cs, rfl, _⟩ := hval
   have h4 : LRel P ρ' avs cs.toList := h4
   exact .agg (by simpa using h4.1) (fun i x y hx hy => h4.2 i x y (by simpa using hx) (by simpa using hy))
  ·cases ht
theorem Wv : ∀ (tys : List Ty) (ts : List TypeId) (vs : List Value) (ds : List (DataW Hd)) (ps : List MemPlace), qi P tys ts = true → (∀ (j : Nat) t v, ts[j]? = some t → vs[j]? = some v → ∃ r b0, Value.okWide P w r b0 t v) →
 DataW.TrodAll enc P w 0 (fun _ => true) held ts vs ds ps → (∀ n ∈ DataW.weightsEach P ts ds, n ≤ reachBytes) → ∀ (ρ : bv) (H : AH), Rel P w w.heap.size ρ H w →
 ∃ ρ' H' x avs, Rel P w w.heap.size ρ' H' w ∧ (∀ b y, ρ b = some y → ρ' b = some y) ∧ eu H H' ∧ LRel P ρ' avs vs ∧ p7 H' tys x avs ∧ u0 tys x := by
 intro tys
 induction tys with
 | nil =>
  intro ts vs ds ps hc hval h hwd ρ H hR
  cases ts with
  | cons t ts => cases hc
  | nil =>
   obtain ⟨rfl, _, _⟩ := trodAll_nil h
   exact ⟨ρ, H, (), [], hR, fun _ _ h => h, eu.refl H, LRel.nil, rfl, trivial⟩
 | cons ty tys ih =>
  intro ts vs ds ps hc hval h hwd ρ H hR
  cases ts with
  | nil => cases hc
  | cons t ts =>
   simp only [qi, Bool.and_eq_true] at hc
   obtain ⟨⟨⟨hc1, _⟩, _⟩, hc2⟩ := hc
   obtain ⟨v, vs', d, ds', p, q, rfl, rfl, rfl, hd, hrest⟩ := trodAll_cons h
   obtain ⟨r, b0, hv0⟩ := hval 0 t v rfl rfl
   obtain ⟨ρ1, H1, x1, a1, hR1, hle1, hk1, hv1, ha1, hs1⟩ := aeE hc1 hv0 hd (fun n hn => hwd n (by rw [DataW.weightsEach]; exact List.mem_append_left _ hn)) hR
   obtain ⟨ρ2, H2, x2, a2, hR2, hle2, hk2, hl2, ha2, hs2⟩ := ih ts vs' ds' q hc2 (fun j t v h1 h2 => hval (j + 1) t v (by simpa using h1) (by simpa using h2)) hrest (fun n hn => hwd n (by rw [DataW.weightsEach]; exact List.mem_append_right _ hn)) ρ1 H1 hR1
   exact ⟨ρ2, H2, (x1, x2), valOf ty a1 :: a2, hR2, fun b y h => hle2 b y (hle1 b y h), hk1.trans hk2, LRel.cons (hv1.mono hle2) hl2, ⟨a1, a2, rfl, Abs.keep hk2 ty x1 a1 ha1, ha2⟩, hs1, hs2⟩
theorem Su (hl : laidOutB P = true) {W' : World} (hb : Below w.heap.size w W') : ∀ (tys : List Ty) (ts : List TypeId) (vs : List Value) (ds : List (DataW Hd)) (ps : List MemPlace), qi P tys ts = true → (∀ x ∈ ps, x.block < w.heap.size) →
 DataW.TrodAll enc P w 0 (fun _ => true) true ts vs ds ps → DataW.TrodAll enc P W' 0 (fun b => decide (b < w.heap.size)) true ts vs ds ps := by
 intro tys
 induction tys with
 | nil =>
  intro ts vs ds ps hc hlt h
  cases ts with
  | cons t ts => cases hc
  | nil =>
   obtain ⟨rfl, rfl, rfl⟩ := trodAll_nil h
   exact trodAll_mk0
 | cons ty tys ih =>
  intro ts vs ds ps hc hlt h
  cases ts with
  | nil => cases hc
  | cons t ts =>
   simp only [qi, Bool.and_eq_true, decide_eq_true_eq] at hc
   obtain ⟨⟨⟨_, hc1⟩, hc3⟩, hc2⟩ := hc
   obtain ⟨v, vs', d, ds', p, q, rfl, rfl, rfl, hd, hrest⟩ := trodAll_cons h
   exact ⟨p, q, Below.trod hl hc1 hc3 hd hb (fun x hx => hlt x (by simp [hx])), ih ts vs' ds' q hc2 (fun x hx => hlt x (by simp [hx])) hrest, rfl⟩
theorem law_post (hm : P.follows .mixedOrders = true) (hl : laidOutB P = true) {G : List Nat} {f : Nat} {fn : Func} {s : ChangeSpec} {tys : List Ty} (hc : qi P tys fn.params.toList = true)
 {tb : TypeId} (hres : fn.resultTypes = #[tb]) (hb : P.underlying tb = some .bool) (hvars : s.vars = [])
 {args : Array Value} {ds gs : List (DataW Hd)} {before : List MemPlace} (hval : ∀ (j : Nat) t v, fn.params[j]? = some t → args[j]? = some v → ∃ r b0, Value.okWide P w r b0 t v)
 (hW : DataW.Whole enc P fn.params.toList s.vars false w args.toList ds gs before) (hspec : s.fn Hd (ds ++ gs) = { results := [.lit (.bool true)], args := ds })
 {ρ0 : bv} {H0 : AH} (hR : Rel P w w.heap.size ρ0 H0 w) (hG : GlobRel ρ0 G)
 (hwt : (DataW.weightsEach P fn.params.toList ds).all (· ≤ reachBytes) = true)
 (run : ∀ (x : Wj tys) (avs : List Value) (H : AH), eu H0 H → p7 H tys x avs → u0 tys x → ∃ H', aF P G f avs H = some (.bool true, H')) :
 Calls P f args w fun e w' => ∃ v, e = .returned v ∧ s.post enc P fn false true false false w args v w' := by
 have hW' := hW
 obtain ⟨p, q, hA, hV, rfl, hfz, hnd⟩ := hW
 rw [hvars] at hV
 obtain ⟨rfl, rfl⟩ := trodVars_none hV
 obtain ⟨ρ1, H1, x, avs, hR1, hle1, hk1, hl1, ha1, hs1⟩ := Wv tys fn.params.toList args.toList ds p hc (fun j t v h1 h2 => hval j t v (by simpa using h1) (by simpa using h2)) hA (fun n hn => by simpa using List.all_eq_true.1 hwt n hn) ρ0 H0 hR
 obtain ⟨H', hrun⟩ := run x avs H1 hk1 ha1 hs1
 have hG1 : GlobRel ρ1 G := fun g hg => let ⟨sz, h⟩ := hG g hg; ⟨sz, hle1 _ _ h⟩
 have hcall := ((akA (P := P) (G := G) hm).1 f avs H1 _ H' hrun).2 w w.heap.size ρ1 w args.toList hR1 hG1 hl1
 rw [show args.toList.toArray = args from by simp] at hcall
 refine hcall.mono fun e w' ⟨v', ρ', he, hv, hext, hR'⟩ => ?_
 have hv : v' = .bool true := by
  cases hv with
  | lit h => rfl
 subst hv
 subst he
 have hlt : ∀ y ∈ p, y.block < w.heap.size := fun y hy => by
  have := hW'.lt y (by simp [hy])
  simpa using this
 refine ⟨_, rfl, ds, [], p ++ [], [], p, [], hW', ?_, ?_, ?_, ?_, fun h => by cases h⟩
 ·rw [hspec, hres]
  exact ⟨[], [], shut_bool hb true, trodAll_mk0, rfl⟩
 ·rw [hspec]
  exact Su hl hR'.below tys _ _ _ _ hc hlt hA
 ·rw [hvars, hspec]
  rfl
 ·exact hR'.below.frame _
end
theorem rel_none (P : Program) (w : World) : Rel P w w.heap.size (fun _ => none) ⟨[]⟩ w where
 base := Nat.le_refl _
 below := Below.refl _ _
 dom := fun b x h => by cases h
 blk := fun b c d sz h => by cases h
 obj := fun b c d sz o h => by cases h
 own := fun b c d sz o h => by cases h
 ro := fun b c d sz cs h => by cases h
 inj := fun b b' c d d' sz sz' o o' h => by cases h
end Go.Proofs.YtodpbobjmkhcfaaGreatDoor.Gst
namespace Go.Proofs.YtodpbobjmkhcfaaGreatDoor.Gst
open Go Go.RowKit
set_option maxRecDepth 100000
set_option linter.unusedVariables false
set_option maxHeartbeats 1000000
set_option linter.unusedSimpArgs false
noncomputable abbrev PP : Program := Tryz.prog
def GG : List Nat := [0]
noncomputable abbrev FF : bh := aF PP GG
noncomputable abbrev CQ (c : Code) (kn : KK) (kx : KX) (kr : KK) : KK := CK PP GG FF c kn kx kr
noncomputable abbrev ri (c : Code) (kx : KX) (kr : KK) : KK := CL PP GG FF c kx kr
def ik : Nat := 6
def ij : Nat := 7
def nM : Nat := 9
def lC : Nat := 10
def f8 : Nat := 11
def fS : Nat := 12
def vM : Nat := 13
def vL : Nat := 14
def aaK : Nat := 15
def nL : Nat := 16
def dA : Nat := 17
def pB : Nat := 18
def gf : Nat := 20
def a9 : Nat := 21
def gH : Nat := 22
def i5 : Nat := 23
def Jy : Nat := 24
def il : Nat := 25
def Jz : Nat := 26
def md : Nat := 30
def pA : Nat := 31
def kN : Nat := 32
def kI : Nat := 33
def fU : Nat := 34
def kH : Nat := 35
def aaQ : Nat := 36
def aaS : Nat := 37
def cT : Nat := 38
def lD : Nat := 39
def ei : Nat := 40
def i0 : Nat := 41
def mi : Nat := 42
def dB : Nat := 43
def sj : Nat := 44
def dm : Nat := 45
def fC : Nat := 46
def nK : Nat := 47
def eH : Nat := 48
def ga : Nat := 49
def bB : Nat := 50
def jJ : Nat := 51
def ma : Nat := 55
def vN : Nat := 56
def pz : Nat := 57
def pF : Nat := 58
def sk : Nat := 59
def se : Nat := 60
def kM : Nat := 61
def kO : Nat := 62
def mg : Nat := 63
def mf : Nat := 64
def me : Nat := 65
def gF : Nat := 66
def i4 : Nat := 67
def iv : Nat := 68
def jO : Nat := 69
def gW : Nat := 70
def iY : Nat := 71
def aaT : Nat := 72
def iV : Nat := 73
def aaO : Nat := 74
def py : Nat := 75
def lZ : Nat := 76
def ir : Nat := 77
def eS : Nat := 78
def cr : Nat := 79
def Q3 : Nat := 80
def i6 : Nat := 81
def gI : Nat := 82
def jL : Nat := 83
def gn : Nat := 84
def bK : Nat := 85
def gl : Nat := 86
def fh : Nat := 87
def gk : Nat := 88
def i8 : Nat := 89
def kP : Nat := 90
def dY : Nat := 91
def gm : Nat := 92
def ip : Nat := 93
def ahH : Nat := 94
def aaN : Nat := 95
def sf : Nat := 96
def bE : Nat := 97
def aaP : Nat := 98
def im : Nat := 99
def dV : Nat := 100
def xg : Nat := 101
def bO : Nat := 102
def ej : Nat := 103
def iq : Nat := 104
def ja : Nat := 105
def eF : Nat := 106
def i9 : Nat := 107
def jM : Nat := 108
def fT : Nat := 109
def iu : Nat := 110
def jb : Nat := 111
def dX : Nat := 118
def bf : Nat := 119
def pC : Nat := 120
def sm : Nat := 121
def t8 : Nat := 122
def t7 : Nat := 123
def aaL : Nat := 124
def eE : Nat := 125
def sn : Nat := 126
def mh : Nat := 127
def cq : Nat := 128
def iw : Nat := 129
def cR : Nat := 130
def ka : Nat := 131
def j7 : Nat := 132
def t5 : Nat := 133
def bk : Nat := 134
def fB : Nat := 135
def cA : Nat := 136
def Q4 : Nat := 137
def DY : Nat := 138
def ie : Nat := 139
def aaM : Nat := 140
def i7 : Nat := 141
def fi : Nat := 142
def jN : Nat := 143
def dg : Nat := 144
def du : Nat := 145
def gj : Nat := 146
def gi : Nat := 147
def jK : Nat := 148
def i1 : Nat := 149
def i3 : Nat := 150
def cK : Nat := 151
def en : Nat := 152
def dZ : Nat := 153
def lF : Nat := 154
def nN : Nat := 155
def cL : Nat := 156
def lG : Nat := 157
def gJ : Nat := 160
def so : Nat := 164
def pE : Nat := 165
def pD : Nat := 174
def gG : Nat := 175
def gK : Nat := 176
def fV : Nat := 177
def io : Nat := 178
def bN : Nat := 179
def dy : Nat := 180
def aaR : Nat := 181
def kL : Nat := 182
def dW : Nat := 183
def dC : Nat := 184
def jC : Nat := 185
def cF : Nat := 186
def kK : Nat := 187
def jm : Nat := 190
def pG : Nat := 195
def sg : Nat := 196
def cJ : Nat := 211
def kJ : Nat := 212
def fG : Nat := 213
def j8 : Nat := 214
def dz : Nat := 215
def JB : Nat := 216
def ix : Nat := 217
def fj : Nat := 221
def nO : Nat := 224
def fE : Nat := 253
def fD : Nat := 254
def mW : Nat := 255
def iX : Nat := 256
def iW : Nat := 257
def eR : Nat := 259
def dU : Nat := 276
def eW : Nat := 277
def mV : Nat := 278
def fR : Nat := 279
def kg : Nat := 280
def dT : Nat := 287
def lE : Nat := 288
def t6 : Nat := 289
def kf : Nat := 290
def j5 : Nat := 291
def j6 : Nat := 292
def eG : Nat := 293
def jP : Nat := 294
def fF : Nat := 295
def eO : Nat := 296
def iZ : Nat := 297
def cB : Nat := 298
def cW : Nat := 299
def ig : Nat := 300
def j9 : Nat := 301
def gC : Nat := 302
def kc : Nat := 303
def gD : Nat := 304
def mU : Nat := 305
noncomputable def CV (p : List Nat) : Code := Code.sub (bG Tryz.f9) p
noncomputable def AZ : KK := dR PP (Tryz.f9).results.toList
noncomputable def ag4 : KK := CQ (CV [1, 1, 1, 1, 1]) AZ bq AZ
noncomputable def w9 (x1 x2 x4 x5 x8 : Value) (H : AH) : OV := ag4 (ls [u, x1, x2, u, x4, x5, u, u, x8] 79) H
noncomputable def ZM : KK := CQ (CV [1, 1, 1, 1, 1, 1]) AZ bq AZ
noncomputable def ag2 : KK := dd 309485009821345068724780751 ZM
noncomputable def xa (x4 x5 x8 : Value) (H : AH) : OV := ZM (ls [u, u, u, u, x4, x5, u, u, x8] 79) H
noncomputable def ag5 : KK := CQ (CV [1, 1, 1, 1, 1, 0, 1]) ag2 bq AZ
noncomputable def xd (x1 x2 x4 x5 x8 x9 : Value) (H : AH) : OV := ag5 (ls [u, x1, x2, u, x4, x5, u, u, x8, x9] 78) H
noncomputable def ZQ : KX := BX 0 ag2 bq
noncomputable def QJ : KX := ml 309485009821345068724780751 ZQ
noncomputable def ZN : KK := ri (CV [1, 1, 1, 1, 1, 0, 1, 4, 5]) QJ AZ
noncomputable def ag3 : KK := dd 309485009821345068724780233 ZN
noncomputable def ly (x1 x2 x4 x5 x8 x9 : Value) (H : AH) : OV := ZN (ls [u, x1, x2, u, x4, x5, u, u, x8, x9] 78) H
noncomputable def ag6 : KK := CQ (CV [1, 1, 1, 1, 1, 0, 1, 4, 5, 1]) ag3 QJ AZ
noncomputable def xe (x1 x2 x4 x5 x8 x9 : Value) (H : AH) : OV := ag6 (ls [u, x1, x2, u, x4, x5, u, u, x8, x9] 78) H
noncomputable def ZO : KK := CQ (CV [1, 1, 1, 1, 1, 0, 1, 4, 5, 1, 1]) ag3 QJ AZ
noncomputable def akJ : KK := dd 309485009821345068724780233 ZO
noncomputable def pw (x1 x2 x4 x5 x8 x9 : Value) (H : AH) : OV := ZO (ls [u, x1, x2, u, x4, x5, u, u, x8, x9] 78) H
noncomputable def ai0 : KX := BX 1 akJ QJ
noncomputable def ry (x4 x5 x8 : Value) (H : AH) : OV := ZQ 0 (ls [u, u, u, u, x4, x5, u, u, x8] 79) H
theorem pf : au 309485009821345068724781007 AZ := rf
theorem afG : au 309485009821345068724780745 ag4 := rc pf aB pf
theorem Gn : au 309485009821345068724780751 ZM := rc pf aB pf
theorem afH : au 309485009821345068724780233 ag5 := rc (cd Gn) aB pf
theorem tL : ∀ i, au 309485009821345068724780751 (ZQ i) := rb (cd Gn) aB
theorem y6 : au 309485009821345068724780233 ZN := rl (cx tL) pf
theorem afI : au 309485009821345068724780233 ag6 := rc (cd y6) (cx tL) pf
theorem QI : au 309485009821345068724780233 ZO := rc (cd y6) (cx tL) pf
theorem ZP : ∀ i, au 309485009821345068724780233 (ai0 i) := rb (cd QI) (cx tL)
theorem Bm (x4 x5 x8 : Value) (H : AH) : xa x4 x5 x8 H =
 (aD 2 x8 H).bind fun v2 =>
 (dn 2 x4 v2 H).bind fun H3 =>
 (aD 2 x4 H3).bind fun v4 => some (Value.tuple #[v4, (vb true)], H3) :=
 (by kernel_rfl)
theorem Bp (x1 x2 x4 x5 x8 x9 : Value) (H : AH) : pw x1 x2 x4 x5 x8 x9 H =
 (ai .other .add x9 (vi 1)).bind fun v10 =>
 ly x1 x2 x4 x5 x8 v10 H :=
 (by kernel_rfl)
theorem Bo (x1 x2 x4 x5 x8 x9 : Value) (H : AH) : xe x1 x2 x4 x5 x8 x9 H =
 ld [.f 0] x2 H fun v12 =>
 (ai .other .quo x9 v12).bind fun v13 =>
 ld [.f 1] x2 H fun v14 =>
 (ai .other .lss v13 v14).bind fun v15 =>
 (gB v15 true (aD 2 x8 H)).bind fun v16 =>
 (gV v15 true x9).bind fun v17 =>
 (gV v15 true x9).bind fun v18 =>
 (gB v15 true (ai .other .add (vi 1) v18)).bind fun v19 =>
 (gV v15 true x9).bind fun v20 =>
 (gB v15 true (ai .other .rem v20 (vi 2))).bind fun v21 =>
 (gB v15 true (ai .other .add (vi 2) v21)).bind fun v22 =>
 (gE v15 true H (FF kI [v16, v17, v19, v22] H)).bind fun r23 =>
 (gB v15 true (ot .not r23.1)).bind fun v24 =>
 (aQ v15 v24 (vb false)).bind fun v25 =>
 ax v25
 (g6 [(0, 1), (1, 1)] [(.pointer none), (.pointer none)] [] fun v26 =>
 (dn 2 x4 v26 r23.2).bind fun H27 =>
 (aD 2 x4 H27).bind fun v28 => some (Value.tuple #[v28, (vb false)], H27))
 (pw x1 x2 x4 x5 x8 x9 r23.2) :=
 (pt rfl 0 QI (bt rfl (CV [1, 1, 1, 1, 1, 0, 1, 4, 5, 1, 0, 4]) 1 ZP (by kernel_rfl)))
theorem vx (x4 x5 x8 : Value) (H : AH) : ry x4 x5 x8 H = xa x4 x5 x8 H :=
 (by kernel_rfl)
theorem pr (x1 x2 x4 x5 x8 x9 : Value) (H : AH) : ly x1 x2 x4 x5 x8 x9 H =
 (ai .other .lss x9 x1).bind fun v29 =>
 ax v29
 (xe x1 x2 x4 x5 x8 x9 H)
 (ry x4 x5 x8 H) :=
 rG rfl y6 (pt rfl 0 afI (by kernel_rfl))
theorem Bn (x1 x2 x4 x5 x8 x9 : Value) (H : AH) : xd x1 x2 x4 x5 x8 x9 H =
 ly x1 x2 x4 x5 x8 x9 H :=
 (bt rfl (CV [1, 1, 1, 1, 1, 0, 1, 4]) 0 tL (li rfl (CV [1, 1, 1, 1, 1, 0, 1, 4, 5]) y6 (by kernel_rfl)))
theorem Bl (x1 x2 x4 x5 x8 : Value) (H : AH) : w9 x1 x2 x4 x5 x8 H =
 xd x1 x2 x4 x5 x8 (vi 0) H :=
 (pt rfl 0 Gn (pt rfl 0 afH (by kernel_rfl)))
noncomputable def Z3 (x0 x1 : Value) (H : AH) : OV := aU PP GG FF (CV []) (ls [x0, x1] 86) H AZ bq AZ
theorem Jm (x0 x1 : Value) (H : AH) {r : Value × AH} (h : (
 aV (Value.cells x0).toList H fun v30 H31 =>
 aV [(.pointer none), (.pointer none)] H31 fun v32 H33 =>
 (aD 5 v30 H33).bind fun v34 =>
 (FF md [v34] H33).bind fun r35 =>
 (dn 5 v30 r35.1 r35.2).bind fun H36 =>
 (aD 5 v30 H36).bind fun v37 =>
 (FF pA [v37] H36).bind fun r38 =>
 (aj r38.1 0).bind fun v39 =>
 (aj r38.1 1).bind fun v40 =>
 (ai .other .neq v40 (vi 0)).bind fun v41 =>
 (gV v41 false v39).bind fun v42 =>
 (gB v41 false (ai .ptr .eql v42 (.pointer none))).bind fun v43 =>
 (aQ v41 (vb true) v43).bind fun v44 =>
 (gV v44 false v39).bind fun v45 =>
 fu v44 false  [.n, .f 0] v45 r38.2 fun v46 =>
 (gB v44 false (ai .ptr .eql v46 (.pointer none))).bind fun v47 =>
 (aQ v44 (vb true) v47).bind fun v48 =>
 (gV v48 false v39).bind fun v49 =>
 fu v48 false  [.n, .f 1] v49 r38.2 fun v50 =>
 (gB v48 false (ai .ptr .eql v50 (.pointer none))).bind fun v51 =>
 (aQ v48 (vb true) v51).bind fun v52 =>
 (gV v52 false v39).bind fun v53 =>
 fu v52 false  [.n, .f 2] v53 r38.2 fun v54 =>
 (gB v52 false (ai .ptr .eql v54 (.pointer none))).bind fun v55 =>
 (aQ v52 (vb true) v55).bind fun v56 =>
 (gV v56 false v39).bind fun v57 =>
 fu v56 false  [.n, .f 3] v57 r38.2 fun v58 =>
 (gB v56 false (ai .ptr .eql v58 (.pointer none))).bind fun v59 =>
 (aQ v56 (vb true) v59).bind fun v60 =>
 (gV v60 false v39).bind fun v61 =>
 fu v60 false  [.n, .f 4] v61 r38.2 fun v62 =>
 (gB v60 false (ai .ptr .eql v62 (.pointer none))).bind fun v63 =>
 (aQ v60 (vb true) v63).bind fun v64 =>
 ax v64
 (g6 [(0, 1), (1, 1)] [(.pointer none), (.pointer none)] [] fun v65 =>
 (dn 2 v32 v65 r38.2).bind fun H66 =>
 (aD 2 v32 H66).bind fun v67 => some (Value.tuple #[v67, (vb false)], H66))
 ((aD 5 v30 r38.2).bind fun v68 =>
 (FF kN [v68] r38.2).bind fun r69 =>
 g6 [(0, 1), (1, 1)] [(.pointer none), (.pointer none)] [(0, v39), (1, r69.1)] fun v70 =>
 aV [(.pointer none), (.pointer none)] r69.2 fun v71 H72 =>
 (dn 2 v71 v70 H72).bind fun H73 =>
 w9 x1 v30 v32 (vb false) v71 H73)) = some r) : FF nM [x0, x1] H = some r :=
 fo (t := Z3 x0 x1 H) Tryz.func9 (by kernel_rfl) (Eq.trans (pt rfl 4 afG (by kernel_rfl)) h)
theorem Bz (x0 : Value) (H : AH) {r : Value × AH} (h : (
 ld [.n, .f 1] x0 H fun v0 =>
 dG v0 fun v1 =>
 some (v1, H)) = some r) : FF f8 [x0] H = some r :=
 fo Tryz.func11 (by kernel_rfl) h
theorem pH (x0 x1 x2 : Value) (H : AH) {r : Value × AH} (h : (
 ld [.n, .f 11] x0 H fun v0 =>
 (dD .int v0 x1 x2 H).bind fun H1 =>
 some (Value.tuple #[], H1)) = some r) : FF fS [x0, x1, x2] H = some r :=
 fo Tryz.func12 (by kernel_rfl) h
theorem Lv (x0 x1 x2 : Value) (H : AH) {r : Value × AH} (h : (
 aV (Value.cells x2).toList H fun v0 H1 =>
 (aD 4 v0 H1).bind fun v2 =>
 ld [.n, .f 2] x0 H1 fun v3 =>
 ld [.f 1] v0 H1 fun v4 =>
 (FF fU [v3, v4] H1).bind fun r5 =>
 bD (aD 4 v0 r5.2) (aD 4 v0 H1) <|
 g6 [(0, 1), (1, 1), (2, 4), (6, 1), (7, 1), (8, 1), (9, 1), (10, 1), (11, 1), (12, 1), (13, 1), (14, 1), (15, 1)] [(.pointer none), (vi 0), (vi 0), (vi 0), (vi 0), (vi 0), (vi 0), Value.nilFunc, (vi 0), (vi 0), (vb false), (.pointer none), (vw 0), (vw 0), (vi 0), (vw 0)] [(0, x0), (1, x1), (2, v2), (3, r5.1)] fun v6 =>
 aV (Value.cells v6).toList r5.2 fun v7 H8 =>
 st 1 [.n, .f 7] v7 (.func (.func kH) #[v7] #[]) H8 fun H9 =>
 some (v7, H9)) = some r) : FF vM [x0, x1, x2] H = some r :=
 fo Tryz.func13 (by kernel_rfl) h
theorem Lg (x0 x1 : Value) (H : AH) {r : Value × AH} (h : (
 aV [(vi 0), (.slice none 0 0), (vi 0), (vw 0)] H fun v0 H1 =>
 ld [.n, .f 7] x0 H1 fun v2 =>
 (bM v2 [x1]).bind fun c => (FF c.1 c.2 H1).bind fun r3 =>
 (aj r3.1 0).bind fun v4 =>
 (aj r3.1 1).bind fun v5 =>
 (dn 4 v0 v4 r3.2).bind fun H6 =>
 (aD 4 v0 H6).bind fun v7 => some (Value.tuple #[v7, v5], H6)) = some r) : FF vL [x0, x1] H = some r :=
 fo Tryz.func14 (by kernel_rfl) h
noncomputable def rm (p : List Nat) : Code := Code.sub (bG Tryz.f15) p
noncomputable def oV : KK := dR PP (Tryz.f15).results.toList
noncomputable def Xm : KK := CQ (rm [1, 1, 1, 1]) oV bq oV
noncomputable def aa9 (x2 x3 x4 : Value) (H : AH) : OV := Xm (ls [u, u, x2, x3, x4] 25) H
noncomputable def L4 : KK := CQ (rm [1, 1, 1, 1, 1]) oV bq oV
noncomputable def Xj : KK := dd 1073741803 L4
noncomputable def abA (x2 x4 : Value) (H : AH) : OV := L4 (ls [u, u, x2, u, x4] 25) H
noncomputable def Xo : KK := CQ (rm [1, 1, 1, 1, 0, 1]) Xj bq oV
noncomputable def abB (x2 x4 x14 x15 x16 : Value) (H : AH) : OV := Xo (ls [u, u, x2, u, x4, u, u, u, u, u, u, u, u, u, x14, x15, x16] 13) H
noncomputable def L7 : KX := BX 0 Xj bq
noncomputable def FA : KX := ml 1073741803 L7
noncomputable def L5 : KK := ri (rm [1, 1, 1, 1, 0, 1, 4, 5]) FA oV
noncomputable def Xl : KK := dd 1073627115 L5
noncomputable def GN (x2 x4 x14 x15 x16 : Value) (H : AH) : OV := L5 (ls [u, u, x2, u, x4, u, u, u, u, u, u, u, u, u, x14, x15, x16] 13) H
noncomputable def Xq : KK := CQ (rm [1, 1, 1, 1, 0, 1, 4, 5, 1, 1]) Xl FA oV
noncomputable def abC (x2 x4 x14 x15 x16 : Value) (H : AH) : OV := Xq (ls [u, u, x2, u, x4, u, u, u, u, u, u, u, u, u, x14, x15, x16] 13) H
noncomputable def L6 : KK := CQ (rm [1, 1, 1, 1, 0, 1, 4, 5, 1, 1, 1]) Xl FA oV
noncomputable def aiF : KK := dd 1073627115 L6
noncomputable def abD (x2 x4 x14 x15 x16 : Value) (H : AH) : OV := L6 (ls [u, u, x2, u, x4, u, u, u, u, u, u, u, u, u, x14, x15, x16] 13) H
noncomputable def aiG : KX := BX 1 aiF FA
noncomputable def JH (x2 x4 : Value) (H : AH) : OV := L7 0 (ls [u, u, x2, u, x4] 25) H
theorem lj : au 1073741819 oV := rf
theorem Xn : au 1073741795 Xm := rc lj aB lj
theorem Av : au 1073741803 L4 := rc lj aB lj
theorem Xp : au 1073627115 Xo := rc (cd Av) aB lj
theorem oW : ∀ i, au 1073741803 (L7 i) := rb (cd Av) aB
theorem tr : au 1073627115 L5 := rl (cx oW) lj
theorem Xr : au 1073627115 Xq := rc (cd tr) (cx oW) lj
theorem IU : au 1073627115 L6 := rc (cd tr) (cx oW) lj
theorem Xs : ∀ i, au 1073627115 (aiG i) := rb (cd IU) (cx oW)
theorem UJ (x2 x4 : Value) (H : AH) : abA x2 x4 H =
 some (x4, H) :=
 (by kernel_rfl)
theorem UM (x2 x4 x14 x15 x16 : Value) (H : AH) : abD x2 x4 x14 x15 x16 H =
 (ai .other .add x16 (vi 1)).bind fun v7 =>
 GN x2 x4 x14 x15 v7 H :=
 (by kernel_rfl)
theorem UL (x2 x4 x14 x15 x16 : Value) (H : AH) : abC x2 x4 x14 x15 x16 H =
 ldN 7 [.i 7 x16] x14 H fun v9 =>
 aV [(vi 0), (vi 0), (vi 0), (vi 0), (.slice none 0 0), (vi 0), (vw 0)] H fun v10 H11 =>
 (dn 7 v10 v9 H11).bind fun H12 =>
 ldN 4 [.f 3] v10 H12 fun v13 =>
 (FF lD [v13] H12).bind fun r14 =>
 st 4 [.f 3] v10 r14.1 r14.2 fun H15 =>
 (aD 7 v10 H15).bind fun v16 =>
 vJ 1 7 [(vi 0), (vi 0), (vi 0), (vi 0), (.slice none 0 0), (vi 0), (vw 0)] [(0, v16)] H15 fun v17 H18 =>
 (dq 7 72 x4 v17 H18).bind fun r19 =>
 abD x2 r19.1 x14 x15 x16 r19.2 :=
 (pt rfl 0 IU (bt rfl (rm [1, 1, 1, 1, 0, 1, 4, 5, 1, 1, 0, 4]) 1 Xs (by kernel_rfl)))
theorem JI (x2 x4 : Value) (H : AH) : JH x2 x4 H = abA x2 x4 H :=
 (by kernel_rfl)
theorem D6 (x2 x4 x14 x15 x16 : Value) (H : AH) : GN x2 x4 x14 x15 x16 H =
 (ai .other .lss x16 x15).bind fun v20 =>
 ax v20
 (abC x2 x4 x14 x15 x16 H)
 (JH x2 x4 H) :=
 rG rfl tr (pt rfl 1 Xr (by kernel_rfl))
theorem UK (x2 x4 x14 x15 x16 : Value) (H : AH) : abB x2 x4 x14 x15 x16 H =
 GN x2 x4 x14 x15 x16 H :=
 (bt rfl (rm [1, 1, 1, 1, 0, 1, 4]) 0 oW (li rfl (rm [1, 1, 1, 1, 0, 1, 4, 5]) tr (by kernel_rfl)))
theorem UI (x2 x3 x4 : Value) (H : AH) : aa9 x2 x3 x4 H =
 dG x3 fun v21 =>
 abB x2 x4 x3 v21 (vi 0) H :=
 (pt rfl 0 Av (pt rfl 0 Xp (by kernel_rfl)))
noncomputable def pPP (x0 : Value) (H : AH) : OV := aU PP GG FF (rm []) (ls [x0] 29) H oV bq oV
theorem ai8 (x0 : Value) (H : AH) {r : Value × AH} (h : (
 ld [.n, .f 12] x0 H fun v22 =>
 (FF aaQ [v22] H).bind fun r23 =>
 (FF aaS [r23.1, (.func (.func cT) #[] #[])] r23.2).bind fun r24 =>
 aa9 (.slice none 0 0) r23.1 (.slice none 0 0) r24.2) = some r) : FF aaK [x0] H = some r :=
 fo (t := pPP x0 H) Tryz.func15 (by kernel_rfl) (Eq.trans (pt rfl 3 Xn (by kernel_rfl)) h)
theorem Jh (x0 x1 : Value) (H : AH) {r : Value × AH} (h : (
 aV (Value.cells x0).toList H fun v0 H1 =>
 aV (Value.cells x1).toList H1 fun v2 H3 =>
 ld [.f 0] v0 H3 fun v4 =>
 ld [.f 0] v2 H3 fun v5 =>
 (ai .other .eql v4 v5).bind fun v6 =>
 fu v6 true  [.f 2] v0 H3 fun v7 =>
 fu v6 true  [.f 2] v2 H3 fun v8 =>
 (gB v6 true (ai .other .eql v7 v8)).bind fun v9 =>
 (aQ v6 v9 (vb false)).bind fun v10 =>
 fu v10 true  [.f 3] v0 H3 fun v11 =>
 fu v10 true  [.f 3] v2 H3 fun v12 =>
 (gB v10 true (ai .other .eql v11 v12)).bind fun v13 =>
 (aQ v10 v13 (vb false)).bind fun v14 =>
 fu v14 true  [.f 1] v0 H3 fun v15 =>
 fu v14 true  [.f 1] v2 H3 fun v16 =>
 (gE v14 true H3 (FF ei [v15, v16] H3)).bind fun r17 =>
 (aQ v14 r17.1 (vb false)).bind fun v18 =>
 some (v18, r17.2)) = some r) : FF nL [x0, x1] H = some r :=
 fo Tryz.func16 (by kernel_rfl) h
theorem CX (x0 x1 : Value) (H : AH) {r : Value × AH} (h : (
 aV (Value.cells x0).toList H fun v0 H1 =>
 aV (Value.cells x1).toList H1 fun v2 H3 =>
 ld [.f 0] v0 H3 fun v4 =>
 ld [.f 0] v2 H3 fun v5 =>
 (ai .other .eql v4 v5).bind fun v6 =>
 fu v6 true  [.f 1] v0 H3 fun v7 =>
 fu v6 true  [.f 1] v2 H3 fun v8 =>
 (gB v6 true (ai .other .eql v7 v8)).bind fun v9 =>
 (aQ v6 v9 (vb false)).bind fun v10 =>
 fu v10 true  [.f 2] v0 H3 fun v11 =>
 fu v10 true  [.f 2] v2 H3 fun v12 =>
 (gB v10 true (ai .other .eql v11 v12)).bind fun v13 =>
 (aQ v10 v13 (vb false)).bind fun v14 =>
 mI v14 true  4 [.f 3] v0 H3 fun v15 =>
 mI v14 true  4 [.f 3] v2 H3 fun v16 =>
 (gE v14 true H3 (FF nL [v15, v16] H3)).bind fun r17 =>
 (aQ v14 r17.1 (vb false)).bind fun v18 =>
 some (v18, r17.2)) = some r) : FF dA [x0, x1] H = some r :=
 fo Tryz.func17 (by kernel_rfl) h
noncomputable def og (p : List Nat) : Code := Code.sub (bG Tryz.f18) p
noncomputable def oY : KK := dR PP (Tryz.f18).results.toList
noncomputable def Xu : KK := CQ (og [1, 1, 1]) oY bq oY
noncomputable def uf (x1 x2 x3 : Value) (H : AH) : OV := Xu (ls [u, x1, x2, x3] 61) H
noncomputable def Ma : KK := CQ (og [1, 1, 1, 1]) oY bq oY
noncomputable def Az : KK := dd 36893488147419103219 Ma
noncomputable def cH (x2 x3 : Value) (H : AH) : OV := Ma (ls [u, u, x2, x3] 61) H
noncomputable def Xw : KK := CQ (og [1, 1, 1, 0, 1]) Az bq oY
noncomputable def ug (x1 x2 x3 x15 : Value) (H : AH) : OV := Xw (ls [u, x1, x2, x3, u, u, u, u, u, u, u, u, u, u, u, x15] 49) H
noncomputable def XA : KX := BX 0 Az bq
noncomputable def Mb : KX := ml 36893488147419103219 XA
noncomputable def Xy : KK := CQ (og [1, 1, 1, 0, 1, 4, 1]) Az Mb oY
noncomputable def uh (x1 x2 x3 x15 x35 : Value) (H : AH) : OV := Xy (ls [u, x1, x2, x3, u, u, u, u, u, u, u, u, u, u, u, x15, u, u, u, u, u, u, u, u, u, u, u, u, u, u, u, u, u, u, u, x35] 29) H
noncomputable def P4 : KK := CQ (og [1, 1, 1, 0, 1, 4, 1, 3, 1]) Az Mb oY
noncomputable def rI (x1 x2 x3 x15 x48 : Value) (H : AH) : OV := P4 (ls [u, x1, x2, x3, u, u, u, u, u, u, u, u, u, u, u, x15, u, u, u, u, u, u, u, u, u, u, u, u, u, u, u, u, u, u, u, u, u, u, u, u, u, u, u, u, u, u, u, u, x48] 16) H
noncomputable def P5 : KK := CQ (og [1, 1, 1, 0, 1, 4, 1, 3, 1, 3, 1]) Az Mb oY
noncomputable def jn (x1 x2 x3 x15 x51 : Value) (H : AH) : OV := P5 (ls [u, x1, x2, x3, u, u, u, u, u, u, u, u, u, u, u, x15, u, u, u, u, u, u, u, u, u, u, u, u, u, u, u, u, u, u, u, u, u, u, u, u, u, u, u, u, u, u, u, u, u, u, u, x51] 13) H
theorem lk : au 36893488147419103227 oY := rf
theorem Xv : au 36893488147419103217 Xu := rc lk aB lk
theorem mA : au 36893488147419103219 Ma := rc lk aB lk
theorem Xx : au 36893488147419070449 Xw := rc (cd mA) aB lk
theorem tu : ∀ i, au 36893488147419103219 (XA i) := rb (cd mA) aB
theorem Xz : au 36893488113059332081 Xy := rc (cd mA) (cx tu) lk
theorem TD : au 36893206672442359793 P4 := rc (cd mA) (cx tu) lk
theorem TE : au 36891236347605385201 P5 := rc (cd mA) (cx tu) lk
theorem yh (x2 x3 : Value) (H : AH) : cH x2 x3 H =
 (aD 4 x3 H).bind fun v2 =>
 (dn 4 x2 v2 H).bind fun H3 =>
 (aD 4 x2 H3).bind fun v4 => some (v4, H3) :=
 (by kernel_rfl)
theorem vR (x1 x2 x3 x15 x51 : Value) (H : AH) : jn x1 x2 x3 x15 x51 H =
 ax x51
 (g6 [(0, 1), (1, 1), (2, 1), (3, 1)] [(vi 0), (vi 0), (vi 0), (vi 0)] [(0, (vi 4))] fun v21 =>
 (dn 4 x3 v21 H).bind fun H22 =>
 cH x2 x3 H22)
 ((ai .other .eql x15 (vi 8)).bind fun v23 =>
 ax v23
 (ld [.f 2] x1 H fun v24 =>
 (FF a9 [v24, (vi 6)] H).bind fun r25 =>
 g6 [(0, 1), (1, 1), (2, 1), (3, 1)] [(vi 0), (vi 0), (vi 0), (vi 0)] [(0, (vi 5)), (2, r25.1)] fun v26 =>
 (dn 4 x3 v26 r25.2).bind fun H27 =>
 cH x2 x3 H27)
 ((ai .other .eql x15 (vi 9)).bind fun v28 =>
 ax v28
 (g6 [(0, 1), (1, 1), (2, 1), (3, 1)] [(vi 0), (vi 0), (vi 0), (vi 0)] [(0, (vi 6))] fun v29 =>
 (dn 4 x3 v29 H).bind fun H30 =>
 cH x2 x3 H30)
 (ld [.f 2] x1 H fun v31 =>
 (FF a9 [v31, (vi 9)] H).bind fun r32 =>
 (ai .other .add (vi 1) r32.1).bind fun v33 =>
 ad [.f 3] x1 fun v34 =>
 (aq v34 r32.2).bind fun v35 =>
 bD (aq v34 H) (aq v34 r32.2) <|
 (FF a9 [v35, (vi 1000)] r32.2).bind fun r36 =>
 st 1 [.f 0] x3 (vi 3) r36.2 fun H37 =>
 st 1 [.f 2] x3 v33 H37 fun H38 =>
 st 1 [.f 3] x3 r36.1 H38 fun H39 =>
 ld [.f 2] x1 H39 fun v40 =>
 (FF a9 [v40, (vi 13)] H39).bind fun r41 =>
 (ai .other .eql r41.1 (vi 12)).bind fun v42 =>
 ax v42
 (ld [.f 2] x1 r41.2 fun v43 =>
 (FF a9 [v43, (vi 65536)] r41.2).bind fun r44 =>
 (ai .other .add (vi 1) r44.1).bind fun v45 =>
 st 1 [.f 2] x3 v45 r44.2 fun H46 =>
 cH x2 x3 H46)
 (cH x2 x3 r41.2)))) :=
 (by kernel_rfl)
theorem vQ (x1 x2 x3 x15 x48 : Value) (H : AH) : rI x1 x2 x3 x15 x48 H =
 ax x48
 (st 1 [.f 0] x3 (vi 2) H fun H19 =>
 cH x2 x3 H19)
 ((ai .other .eql x15 (vi 6)).bind fun v47 =>
 ax v47
 (jn x1 x2 x3 x15 v47 H)
 ((ai .other .eql x15 (vi 7)).bind fun v48 =>
 jn x1 x2 x3 x15 v48 H)) :=
 (ct rfl (og [1, 1, 1, 0, 1, 4, 1, 3, 1, 2]) (og [1, 1, 1, 0, 1, 4, 1, 3, 1, 3]) (.tmp 48) (by kernel_rfl) (pt rfl 0 TE (by kernel_rfl)))
theorem yj (x1 x2 x3 x15 x35 : Value) (H : AH) : uh x1 x2 x3 x15 x35 H =
 ax x35
 (ld [.f 2] x1 H fun v8 =>
 (FF a9 [v8, (vi 5)] H).bind fun r9 =>
 (ai .other .add (vi 1) r9.1).bind fun v10 =>
 ad [.f 3] x1 fun v11 =>
 (aq v11 r9.2).bind fun v12 =>
 bD (aq v11 H) (aq v11 r9.2) <|
 (FF a9 [v12, (vi 3)] r9.2).bind fun r13 =>
 (ai .other .add (vi 1) r13.1).bind fun v14 =>
 st 1 [.f 0] x3 (vi 1) r13.2 fun H15 =>
 st 1 [.f 2] x3 v10 H15 fun H16 =>
 st 1 [.f 3] x3 v14 H16 fun H17 =>
 cH x2 x3 H17)
 ((ai .other .eql x15 (vi 1)).bind fun v49 =>
 rI x1 x2 x3 x15 v49 H) :=
 (ct rfl (og [1, 1, 1, 0, 1, 4, 1, 2]) (og [1, 1, 1, 0, 1, 4, 1, 3]) (.tmp 35) (by kernel_rfl) (pt rfl 0 TD (by kernel_rfl)))
theorem yi (x1 x2 x3 x15 : Value) (H : AH) : ug x1 x2 x3 x15 H =
 (ai .other .eql x15 (vi 0)).bind fun v50 =>
 uh x1 x2 x3 x15 v50 H :=
 (bt rfl (og [1, 1, 1, 0, 1, 4]) 0 tu (pt rfl 0 Xz (by kernel_rfl)))
theorem yg (x1 x2 x3 : Value) (H : AH) : uf x1 x2 x3 H =
 ld [.f 0] x1 H fun v51 =>
 (FF a9 [v51, (vi 10)] H).bind fun r52 =>
 ug x1 x2 x3 r52.1 r52.2 :=
 (pt rfl 0 mA (pt rfl 0 Xx (by kernel_rfl)))
noncomputable def UR (x0 : Value) (H : AH) : OV := aU PP GG FF (og []) (ls [x0] 64) H oY bq oY
theorem GS (x0 : Value) (H : AH) {r : Value × AH} (h : (
 aV (Value.cells x0).toList H fun v53 H54 =>
 aV [(vi 0), (vi 0), (vi 0), (vi 0)] H54 fun v55 H56 =>
 ld [.f 1] v53 H56 fun v57 =>
 (FF a9 [v57, (vi 23)] H56).bind fun r58 =>
 (ai .other .eql r58.1 (vi 22)).bind fun v59 =>
 ax v59
 ((aD 4 v53 r58.2).bind fun v60 =>
 (dn 4 v55 v60 r58.2).bind fun H61 =>
 (aD 4 v55 H61).bind fun v62 => some (v62, H61))
 (ld [.f 1] v53 r58.2 fun v63 =>
 (FF a9 [v63, (vi 5)] r58.2).bind fun r64 =>
 g6 [(0, 1), (1, 1), (2, 1), (3, 1)] [(vi 0), (vi 0), (vi 0), (vi 0)] [(1, r64.1)] fun v65 =>
 aV [(vi 0), (vi 0), (vi 0), (vi 0)] r64.2 fun v66 H67 =>
 (dn 4 v66 v65 H67).bind fun H68 =>
 uf v53 v55 v66 H68)) = some r) : FF pB [x0] H = some r :=
 fo (t := UR x0 H) Tryz.func18 (by kernel_rfl) (Eq.trans (pt rfl 2 Xv (by kernel_rfl)) h)
theorem JO (x0 x1 : Value) (H : AH) {r : Value × AH} (h : (
 (bJ (some .u64) x0).bind fun v0 =>
 (bJ (some .u64) x1).bind fun v1 =>
 (ai .other .rem v0 v1).bind fun v2 =>
 (bJ (some .i64) v2).bind fun v3 =>
 some (v3, H)) = some r) : FF a9 [x0, x1] H = some r :=
 fo Tryz.func21 (by kernel_rfl) h
noncomputable def Yb (p : List Nat) : Code := Code.sub (bG Tryz.f30) p
noncomputable def AJ : KK := dR PP (Tryz.f30).results.toList
noncomputable def Yc : KK := CQ (Yb [1, 1]) AJ bq AJ
noncomputable def pJ (x1 x2 x3 : Value) (H : AH) : OV := Yc (ls [u, x1, x2, x3] 29) H
noncomputable def Ye : KK := CQ (Yb [1, 1, 1]) AJ bq AJ
noncomputable def iC (x1 x2 x3 : Value) (H : AH) : OV := Ye (ls [u, x1, x2, x3] 29) H
theorem yY : au 8589934587 AJ := rf
theorem Yd : au 8589934577 Yc := rc yY aB yY
theorem Yf : au 8589934577 Ye := rc yY aB yY
theorem uj (x1 x2 x3 : Value) (H : AH) : iC x1 x2 x3 H =
 ld [.f 0] x1 H fun v2 =>
 (FF a9 [v2, (vi 4)] H).bind fun r3 =>
 (ai .other .add (vi 1) r3.1).bind fun v4 =>
 ad [.f 1] x1 fun v5 =>
 (aq v5 r3.2).bind fun v6 =>
 bD (aq v5 H) (aq v5 r3.2) <|
 (FF a9 [v6, (vi 4)] r3.2).bind fun r7 =>
 (ai .other .add (vi 1) r7.1).bind fun v8 =>
 ad [.f 2] x1 fun v9 =>
 (aq v9 r7.2).bind fun v10 =>
 bD (aq v9 H) (aq v9 r7.2) <|
 bD (aq v9 r3.2) (aq v9 r7.2) <|
 (FF a9 [v10, (vi 6)] r7.2).bind fun r11 =>
 (ai .other .add (vi 1) r11.1).bind fun v12 =>
 ad [.f 3] x1 fun v13 =>
 (aq v13 r11.2).bind fun v14 =>
 bD (aq v13 H) (aq v13 r11.2) <|
 bD (aq v13 r3.2) (aq v13 r11.2) <|
 bD (aq v13 r7.2) (aq v13 r11.2) <|
 (FF a9 [v14, (vi 12)] r11.2).bind fun r15 =>
 g6 [(0, 1), (1, 1), (2, 1), (3, 1), (4, 1)] [(vi 0), (vi 0), (vi 0), (vi 0), (vw 0)] [(0, v4), (1, v8), (2, v12), (3, r15.1), (4, x3)] fun v16 =>
 (dn 5 x2 v16 r15.2).bind fun H17 =>
 (aD 5 x2 H17).bind fun v18 => some (v18, H17) :=
 (by kernel_rfl)
theorem ui (x1 x2 x3 : Value) (H : AH) : pJ x1 x2 x3 H =
 ld [.f 4] x1 H fun v19 =>
 (ai .other .rem v19 (vw 4)).bind fun v20 =>
 (ai .other .eql v20 (vw 3)).bind fun v21 =>
 ax v21
 (ld [.f 4] x1 H fun v22 =>
 (ai .other .rem v22 (vw 4611686018427387904)).bind fun v23 =>
 (ai .other .add (vw 1) v23).bind fun v24 =>
 iC x1 x2 v24 H)
 (iC x1 x2 x3 H) :=
 (pt rfl 0 Yf (by kernel_rfl))
noncomputable def JN (x0 : Value) (H : AH) : OV := aU PP GG FF (Yb []) (ls [x0] 32) H AJ bq AJ
theorem BJ (x0 : Value) (H : AH) {r : Value × AH} (h : (
 aV (Value.cells x0).toList H fun v25 H26 =>
 aV [(vi 0), (vi 0), (vi 0), (vi 0), (vw 0)] H26 fun v27 H28 =>
 ld [.f 4] v25 H28 fun v29 =>
 (ai .other .rem v29 (vw 5000)).bind fun v30 =>
 (ai .other .add (vw 1) v30).bind fun v31 =>
 pJ v25 v27 v31 H28) = some r) : FF md [x0] H = some r :=
 fo (t := JN x0 H) Tryz.func30 (by kernel_rfl) (Eq.trans (pt rfl 1 Yd (by kernel_rfl)) h)
theorem GO (x0 : Value) (H : AH) {r : Value × AH} (h : (
 aV (Value.cells x0).toList H fun v0 H1 =>
 (aD 5 v0 H1).bind fun v2 =>
 (FF ma [v2] H1).bind fun r3 =>
 (ot .not r3.1).bind fun v4 =>
 ax v4
 (some (Value.tuple #[(.pointer none), (vi 1)], r3.2))
 ((FF vN [] r3.2).bind fun r5 =>
 ld [.f 0] v0 r5.2 fun v6 =>
 (FF pz [r5.1, v6] r5.2).bind fun r7 =>
 ad [.f 0] v0 fun v8 =>
 (aq v8 r7.2).bind fun v9 =>
 bD (aq v8 r5.2) (aq v8 r7.2) <|
 ad [.f 1] v0 fun v10 =>
 (aq v10 r7.2).bind fun v11 =>
 bD (aq v10 r5.2) (aq v10 r7.2) <|
 (FF pF [r5.1, v9, v11] r7.2).bind fun r12 =>
 ad [.f 2] v0 fun v13 =>
 (aq v13 r12.2).bind fun v14 =>
 bD (aq v13 r5.2) (aq v13 r12.2) <|
 bD (aq v13 r7.2) (aq v13 r12.2) <|
 (FF sk [r5.1, v14] r12.2).bind fun r15 =>
 (aD 5 v0 r15.2).bind fun v16 =>
 bD (aD 5 v0 r5.2) (aD 5 v0 r15.2) <|
 bD (aD 5 v0 r7.2) (aD 5 v0 r15.2) <|
 bD (aD 5 v0 r12.2) (aD 5 v0 r15.2) <|
 (FF se [v16] r15.2).bind fun r17 =>
 (aD 5 v0 r17.2).bind fun v18 =>
 bD (aD 5 v0 r5.2) (aD 5 v0 r17.2) <|
 bD (aD 5 v0 r7.2) (aD 5 v0 r17.2) <|
 bD (aD 5 v0 r12.2) (aD 5 v0 r17.2) <|
 bD (aD 5 v0 r15.2) (aD 5 v0 r17.2) <|
 C0 r17.2 fun v19 H20 =>
 g6 [(0, 1), (1, 1), (2, 1), (3, 1), (4, 1), (5, 5), (10, 1), (11, 1), (12, 1)] [(.pointer none), (.pointer none), (.pointer none), (.pointer none), (.pointer none), (vi 0), (vi 0), (vi 0), (vi 0), (vw 0), (.slice none 0 0), (.map none), (.slice none 0 0)] [(0, r5.1), (1, r7.1), (2, r12.1), (3, r15.1), (4, r17.1), (5, v18), (7, v19)] fun v21 =>
 aV (Value.cells v21).toList H20 fun v22 H23 =>
 some (Value.tuple #[v22, (vi 0)], H23))) = some r) : FF pA [x0] H = some r :=
 fo Tryz.func31 (by kernel_rfl) h
theorem yy (x0 : Value) (H : AH) {r : Value × AH} (h : (
 aV (Value.cells x0).toList H fun v0 H1 =>
 g6 [(0, 1), (1, 1), (2, 1)] [(.slice none 0 0), (.slice none 0 0), (.slice none 0 0)] [] fun v2 =>
 aV (Value.cells v2).toList H1 fun v3 H4 =>
 (aD 5 v0 H4).bind fun v5 =>
 ld [.f 0] v0 H4 fun v6 =>
 (FF kM [v3, v6] H4).bind fun r7 =>
 bD (aD 5 v0 r7.2) (aD 5 v0 H4) <|
 ad [.f 0] v0 fun v8 =>
 (aq v8 r7.2).bind fun v9 =>
 bD (aq v8 H4) (aq v8 r7.2) <|
 ad [.f 1] v0 fun v10 =>
 (aq v10 r7.2).bind fun v11 =>
 bD (aq v10 H4) (aq v10 r7.2) <|
 (FF kO [v3, v9, v11] r7.2).bind fun r12 =>
 bD (aD 5 v0 r12.2) (aD 5 v0 H4) <|
 ad [.f 2] v0 fun v13 =>
 (aq v13 r12.2).bind fun v14 =>
 bD (aq v13 H4) (aq v13 r12.2) <|
 bD (aq v13 r7.2) (aq v13 r12.2) <|
 (FF mg [v3, v14] r12.2).bind fun r15 =>
 bD (aD 5 v0 r15.2) (aD 5 v0 H4) <|
 (aD 5 v0 r15.2).bind fun v16 =>
 bD (aD 5 v0 H4) (aD 5 v0 r15.2) <|
 bD (aD 5 v0 r7.2) (aD 5 v0 r15.2) <|
 bD (aD 5 v0 r12.2) (aD 5 v0 r15.2) <|
 (FF mf [v16] r15.2).bind fun r17 =>
 bD (aD 5 v0 r17.2) (aD 5 v0 H4) <|
 g6 [(0, 5), (5, 1), (6, 1), (7, 1), (8, 1), (9, 1), (10, 1), (11, 1), (12, 1), (13, 1)] [(vi 0), (vi 0), (vi 0), (vi 0), (vw 0), (.pointer none), (.pointer none), (.pointer none), (.pointer none), (.pointer none), (.slice none 0 0), (.slice none 0 0), (.slice none 0 0), (.slice none 0 0)] [(0, v5), (1, v3), (2, r7.1), (3, r12.1), (4, r15.1), (5, r17.1)] fun v18 =>
 aV (Value.cells v18).toList r17.2 fun v19 H20 =>
 some (v19, H20)) = some r) : FF kN [x0] H = some r :=
 fo Tryz.func32 (by kernel_rfl) h
theorem xW (x0 x1 x2 x3 : Value) (H : AH) {r : Value × AH} (h : (
 aV (Value.cells x0).toList H fun v0 H1 =>
 ld [.f 1] v0 H1 fun v2 =>
 ldN 5 [.n, .f 0] v2 H1 fun v3 =>
 aV [(vi 0), (vi 0), (vi 0), (vi 0), (vw 0)] H1 fun v4 H5 =>
 (dn 5 v4 v3 H5).bind fun H6 =>
 ld [.f 4] v4 H6 fun v7 =>
 (FF me [v7, x2] H6).bind fun r8 =>
 (aj r8.1 0).bind fun v9 =>
 (aj r8.1 1).bind fun v10 =>
 g6 [(0, 1), (1, 1), (2, 1)] [(vi 0), (vi 0), (vw 0)] [(0, x1), (1, x3), (2, v9)] fun v11 =>
 aV [(vi 0), (vi 0), (vw 0)] r8.2 fun v12 H13 =>
 (dn 3 v12 v11 H13).bind fun H14 =>
 ld [.f 0] v0 H14 fun v15 =>
 (aD 3 v12 H14).bind fun v16 =>
 (FF gF [v15, (vi 0), v16] H14).bind fun r17 =>
 ad [.f 1] v0 fun v18 =>
 (aq v18 r17.2).bind fun v19 =>
 bD (aq v18 H14) (aq v18 r17.2) <|
 (aD 3 v12 r17.2).bind fun v20 =>
 bD (aD 3 v12 H14) (aD 3 v12 r17.2) <|
 (FF i4 [v19, (vi 0), v20] r17.2).bind fun r21 =>
 (ai .other .eql r17.1 r21.1).bind fun v22 =>
 fu v22 true  [.f 0] v0 r21.2 fun v23 =>
 fu v22 true  [.n, .f 2] v23 r21.2 fun v24 =>
 (gV v22 true x1).bind fun v25 =>
 fu v22 true  [.f 0] v4 r21.2 fun v26 =>
 (gB v22 true (ai .other .rem v25 v26)).bind fun v27 =>
 (gV v22 true x1).bind fun v28 =>
 fu v22 true  [.f 0] v4 r21.2 fun v29 =>
 (gB v22 true (ai .other .quo v28 v29)).bind fun v30 =>
 (gV v22 true x1).bind fun v31 =>
 (gV v22 true r17.1).bind fun v32 =>
 (gE v22 true r21.2 (FF iv [v24, (vi 0), v27, v30, v31, v32] r21.2)).bind fun r33 =>
 (aQ v22 r33.1 (vb false)).bind fun v34 =>
 fu v34 true  [.f 1] v0 r33.2 fun v35 =>
 fu v34 true  [.n, .f 7] v35 r33.2 fun v36 =>
 (gV v34 true x1).bind fun v37 =>
 fu v34 true  [.f 0] v4 r33.2 fun v38 =>
 (gB v34 true (ai .other .rem v37 v38)).bind fun v39 =>
 (gV v34 true x1).bind fun v40 =>
 fu v34 true  [.f 0] v4 r33.2 fun v41 =>
 (gB v34 true (ai .other .quo v40 v41)).bind fun v42 =>
 (gV v34 true x1).bind fun v43 =>
 (gV v34 true r21.1).bind fun v44 =>
 (gE v34 true r33.2 (FF jO [v36, (vi 0), v39, v42, v43, v44] r33.2)).bind fun r45 =>
 (aQ v34 r45.1 (vb false)).bind fun v46 =>
 some (v46, r45.2)) = some r) : FF kI [x0, x1, x2, x3] H = some r :=
 fo Tryz.func33 (by kernel_rfl) h
theorem pU (x0 x1 : Value) (H : AH) {r : Value × AH} (h : (
 ld [.n, .f 1] x0 H fun v0 =>
 (ai .other .rem x1 v0).bind fun v1 =>
 ld [.n, .f 1] x0 H fun v2 =>
 (ai .other .add v1 v2).bind fun v3 =>
 ld [.n, .f 1] x0 H fun v4 =>
 (ai .other .rem v3 v4).bind fun v5 =>
 some (v5, H)) = some r) : FF fU [x0, x1] H = some r :=
 fo Tryz.func34 (by kernel_rfl) h
noncomputable def Qp (p : List Nat) : Code := Code.sub (bG Tryz.f35) p
noncomputable def AK : KK := dR PP (Tryz.f35).results.toList
noncomputable def Yg : KK := CQ (Qp [1]) AK bq AK
noncomputable def wJ (x0 x1 x4 x5 : Value) (H : AH) : OV := Yg (ls [x0, x1, u, u, x4, x5] 45) H
noncomputable def Ms : KK := CQ (Qp [1, 1]) AK bq AK
noncomputable def aiJ : KK := dd 2251799813685196 Ms
noncomputable def oS (x0 x1 x4 x5 : Value) (H : AH) : OV := Ms (ls [x0, x1, u, u, x4, x5] 45) H
noncomputable def aiK : KX := BX 0 aiJ bq
theorem yZ : au 2251799813685199 AK := rf
theorem Yh : au 2251799813685196 Yg := rc yZ aB yZ
theorem IY : au 2251799813685196 Ms := rc yZ aB yZ
theorem Yi : ∀ i, au 2251799813685196 (aiK i) := rb (cd IY) aB
theorem zM (x0 x1 x4 x5 : Value) (H : AH) : oS x0 x1 x4 x5 H =
 (FF iY [x0, x1] H).bind fun r2 =>
 (aj r2.1 0).bind fun v3 =>
 (aj r2.1 1).bind fun v4 =>
 (dn 4 x4 v3 r2.2).bind fun H5 =>
 (aD 4 x4 H5).bind fun v6 => some (Value.tuple #[v6, v4], H5) :=
 (by kernel_rfl)
theorem zL (x0 x1 x4 x5 : Value) (H : AH) : wJ x0 x1 x4 x5 H =
 ld [.n, .f 2, .f 2] x0 H fun v8 =>
 (ai .other .lss v8 (vi 1)).bind fun v9 =>
 (gV v9 false x0).bind fun v10 =>
 fu v9 false  [.n, .f 2, .f 2] v10 H fun v11 =>
 (gB v9 false (ai .other .gtr v11 (vi 65536))).bind fun v12 =>
 (aQ v9 (vb true) v12).bind fun v13 =>
 ax v13
 ((FF gW [x0, x1, (vi 3)] H).bind fun r14 =>
 (aj r14.1 0).bind fun v15 =>
 (aj r14.1 1).bind fun v16 =>
 (dn 4 x4 v15 r14.2).bind fun H17 =>
 (aD 4 x4 H17).bind fun v18 => some (Value.tuple #[v18, v16], H17))
 (ld [.n, .f 2, .f 1] x0 H fun v19 =>
 (ai .other .lss v19 (vi 0)).bind fun v20 =>
 (gV v20 false x0).bind fun v21 =>
 fu v20 false  [.n, .f 2, .f 1] v21 H fun v22 =>
 (gB v20 false (ai .other .gtr v22 (vi 1048576))).bind fun v23 =>
 (aQ v20 (vb true) v23).bind fun v24 =>
 ax v24
 ((FF gW [x0, x1, (vi 5)] H).bind fun r25 =>
 (aj r25.1 0).bind fun v26 =>
 (aj r25.1 1).bind fun v27 =>
 (dn 4 x4 v26 r25.2).bind fun H28 =>
 (aD 4 x4 H28).bind fun v29 => some (Value.tuple #[v29, v27], H28))
 (oS x0 x1 x4 x5 H)) :=
 (pt rfl 0 IY (bt rfl (Qp [1, 0, 4]) 0 Yi (by kernel_rfl)))
noncomputable def WO (x0 x1 : Value) (H : AH) : OV := aU PP GG FF (Qp []) (ls [x0, x1] 49) H AK bq AK
theorem Il (x0 x1 : Value) (H : AH) {r : Value × AH} (h : (
 aV [(vi 0), (.slice none 0 0), (vi 0), (vw 0)] H fun v30 H31 =>
 wJ x0 x1 v30 (vb false) H31) = some r) : FF kH [x0, x1] H = some r :=
 fo (t := WO x0 x1 H) Tryz.func35 (by kernel_rfl) (Eq.trans (pt rfl 0 Yh (by kernel_rfl)) h)
theorem ajL (x0 : Value) (H : AH) {r : Value × AH} (h : (
 (ai .slice .eql x0 (.slice none 0 0)).bind fun v0 =>
 ax v0
 (some ((.slice none 0 0), H))
 (vJ 0 7 [(vi 0), (vi 0), (vi 0), (vi 0), (.slice none 0 0), (vi 0), (vw 0)] [] H fun v1 H2 =>
 (dq 7 72 v1 x0 H2).bind fun r3 =>
 some (r3.1, r3.2))) = some r) : FF aaQ [x0] H = some r :=
 fo Tryz.func36 (by kernel_rfl) h
theorem ajP (x0 x1 : Value) (H : AH) {r : Value × AH} (h : (
 dG x0 fun v0 =>
 (FF aaT [x0, v0, x1] H).bind fun r1 =>
 some (Value.tuple #[], r1.2)) = some r) : FF aaS [x0, x1] H = some r :=
 fo Tryz.func37 (by kernel_rfl) h
theorem GP (x0 : Value) (H : AH) {r : Value × AH} (h : (
 aV (Value.cells x0).toList H fun v0 H1 =>
 aV [(vi 0), (.slice none 0 0), (vi 0), (vw 0)] H1 fun v2 H3 =>
 ld [.f 1] v0 H3 fun v4 =>
 (FF aaO [v4] H3).bind fun r5 =>
 st 1 [.f 1] v0 r5.1 r5.2 fun H6 =>
 (aD 4 v0 H6).bind fun v7 =>
 (dn 4 v2 v7 H6).bind fun H8 =>
 (aD 4 v2 H8).bind fun v9 => some (v9, H8)) = some r) : FF lD [x0] H = some r :=
 fo Tryz.func39 (by kernel_rfl) h
theorem mK (x0 x1 : Value) (H : AH) {r : Value × AH} (h : (
 (FF py [x0, x1, (.func (.func lZ) #[] #[])] H).bind fun r0 =>
 some (r0.1, r0.2)) = some r) : FF ei [x0, x1] H = some r :=
 fo Tryz.func40 (by kernel_rfl) h
theorem By (x0 x1 x2 x3 : Value) (H : AH) {r : Value × AH} (h : (
 aV (Value.cells x2).toList H fun v0 H1 =>
 (aD 3 v0 H1).bind fun v2 =>
 (aD 3 v0 H1).bind fun v3 =>
 (FF dV [x0, v3] H1).bind fun r4 =>
 bD (aD 3 v0 r4.2) (aD 3 v0 H1) <|
 (ai .other .add r4.1 x3).bind fun v5 =>
 (FF im [x0, x1, v2, v5] r4.2).bind fun r6 =>
 some (r6.1, r6.2)) = some r) : FF eH [x0, x1, x2, x3] H = some r :=
 fo Tryz.func48 (by kernel_rfl) h
theorem BM (x0 x1 x2 x3 : Value) (H : AH) {r : Value × AH} (h : (
 aV (Value.cells x2).toList H fun v0 H1 =>
 (aD 3 v0 H1).bind fun v2 =>
 (FF xg [x0, v2] H1).bind fun r3 =>
 (aD 3 v0 r3.2).bind fun v4 =>
 (FF bO [x0, x1, (vi 3), v4] r3.2).bind fun r5 =>
 ld [.n, .f 1] x0 r5.2 fun v6 =>
 ld [.i 1 r3.1] v6 r5.2 fun v7 =>
 ld [.n, .f 1] x0 r5.2 fun v8 =>
 (ai .other .add v7 x3).bind fun v9 =>
 st 1 [.i 1 r3.1] v8 v9 r5.2 fun H10 =>
 some (v7, H10)) = some r) : FF ga [x0, x1, x2, x3] H = some r :=
 fo Tryz.func49 (by kernel_rfl) h
theorem Nz (x0 x1 x2 : Value) (H : AH) {r : Value × AH} (h : (
 aV [(vi 0), (vi 0), (vi 0)] H fun v0 H1 =>
 g6 [(0, 1), (1, 1), (2, 1)] [(vi 0), (vi 0), (vi 0)] [(0, x0), (1, x1), (2, x2)] fun v2 =>
 (dn 3 v0 v2 H1).bind fun H3 =>
 (aD 3 v0 H3).bind fun v4 => some (v4, H3)) = some r) : FF bB [x0, x1, x2] H = some r :=
 fo Tryz.func50 (by kernel_rfl) h
theorem BA (x0 : Value) (H : AH) {r : Value × AH} (h : (
 aV (Value.cells x0).toList H fun v0 H1 =>
 ld [.f 0] v0 H1 fun v2 =>
 (FF dX [v2, (vi 1), (vi 4)] H1).bind fun r3 =>
 fu r3.1 true  [.f 1] v0 r3.2 fun v4 =>
 (gE r3.1 true r3.2 (FF dX [v4, (vi 1), (vi 4)] r3.2)).bind fun r5 =>
 (aQ r3.1 r5.1 (vb false)).bind fun v6 =>
 fu v6 true  [.f 2] v0 r5.2 fun v7 =>
 (gE v6 true r5.2 (FF dX [v7, (vi 1), (vi 6)] r5.2)).bind fun r8 =>
 (aQ v6 r8.1 (vb false)).bind fun v9 =>
 fu v9 true  [.f 3] v0 r8.2 fun v10 =>
 (gE v9 true r8.2 (FF dX [v10, (vi 0), (vi 40)] r8.2)).bind fun r11 =>
 (aQ v9 r11.1 (vb false)).bind fun v12 =>
 fu v12 true  [.f 4] v0 r11.2 fun v13 =>
 (gB v12 true (ai .other .geq v13 (vw 1))).bind fun v14 =>
 (aQ v12 v14 (vb false)).bind fun v15 =>
 fu v15 true  [.f 4] v0 r11.2 fun v16 =>
 (gB v15 true (ai .other .leq v16 (vw 4611686018427387904))).bind fun v17 =>
 (aQ v15 v17 (vb false)).bind fun v18 =>
 some (v18, r11.2)) = some r) : FF ma [x0] H = some r :=
 fo Tryz.func55 (by kernel_rfl) h
theorem Nb (H : AH) {r : Value × AH} (h : (
 C0 H fun v0 H1 =>
 g6 [(0, 1), (1, 1)] [(.map none), (.slice none 0 0)] [(0, v0)] fun v2 =>
 aV (Value.cells v2).toList H1 fun v3 H4 =>
 some (v3, H4)) = some r) : FF vN [] H = some r :=
 fo Tryz.func56 (by kernel_rfl) h
theorem Gv (x0 x1 : Value) (H : AH) {r : Value × AH} (h : (
 (gL [x1, (vi 1)]).bind fun v0 =>
 (iJ [v0, (vi 4)]).bind fun v1 =>
 C0 H fun v2 H3 =>
 g6 [(0, 1), (1, 1), (2, 1), (3, 1), (4, 1)] [(.pointer none), (vi 0), (.map none), Value.nilFunc, Value.nilFunc] [(0, x0), (1, v1), (2, v2), (3, (.func (.func bf) #[(vi 9)] #[])), (4, (.func (.func bf) #[(vi 14)] #[]))] fun v4 =>
 aV (Value.cells v4).toList H3 fun v5 H6 =>
 some (v5, H6)) = some r) : FF pz [x0, x1] H = some r :=
 fo Tryz.func57 (by kernel_rfl) h
theorem HE (x0 x1 x2 : Value) (H : AH) {r : Value × AH} (h : (
 (gL [x1, (vi 1)]).bind fun v0 =>
 (iJ [v0, (vi 4)]).bind fun v1 =>
 (gL [x2, (vi 1)]).bind fun v2 =>
 (iJ [v2, (vi 4)]).bind fun v3 =>
 g6 [(0, 1), (1, 1), (2, 1)] [(.pointer none), (vi 0), (vi 0)] [(0, x0), (1, v1), (2, v3)] fun v4 =>
 aV (Value.cells v4).toList H fun v5 H6 =>
 some (v5, H6)) = some r) : FF pF [x0, x1, x2] H = some r :=
 fo Tryz.func58 (by kernel_rfl) h
theorem JT (x0 x1 : Value) (H : AH) {r : Value × AH} (h : (
 (gL [x1, (vi 1)]).bind fun v0 =>
 (iJ [v0, (vi 6)]).bind fun v1 =>
 C0 H fun v2 H3 =>
 C0 H3 fun v4 H5 =>
 g6 [(0, 1), (1, 1), (2, 1), (3, 1)] [(.pointer none), (vi 0), (.map none), (.map none)] [(0, x0), (1, v1), (2, v2), (3, v4)] fun v6 =>
 aV (Value.cells v6).toList H5 fun v7 H8 =>
 some (v7, H8)) = some r) : FF sk [x0, x1] H = some r :=
 fo Tryz.func59 (by kernel_rfl) h
theorem Ig (x0 : Value) (H : AH) {r : Value × AH} (h : (
 aV (Value.cells x0).toList H fun v0 H1 =>
 ld [.f 0] v0 H1 fun v2 =>
 ld [.f 3] v0 H1 fun v3 =>
 (FF pC [v2, v3] H1).bind fun r4 =>
 C0 r4.2 fun v5 H6 =>
 C0 H6 fun v7 H8 =>
 g6 [(0, 1), (1, 1), (2, 1), (3, 1), (4, 1), (5, 1), (6, 1), (7, 1), (8, 3)] [Value.nilFunc, Value.nilFunc, Value.nilFunc, (vw 0), (vw 0), (vi 0), (.map none), (.map none), (vb false), (vi 0), (vw 0)] [(0, (.func (.func sm) #[r4.1] #[])), (1, (.func (.func t8) #[r4.1] #[])), (2, (.func (.func t7) #[r4.1] #[])), (6, v5), (7, v7)] fun v9 =>
 aV (Value.cells v9).toList H8 fun v10 H11 =>
 some (v10, H11)) = some r) : FF se [x0] H = some r :=
 fo Tryz.func60 (by kernel_rfl) h
theorem yx (x0 x1 : Value) (H : AH) {r : Value × AH} (h : (
 (gL [x1, (vi 1)]).bind fun v0 =>
 (iJ [v0, (vi 4)]).bind fun v1 =>
 g6 [(0, 1), (1, 1), (2, 1), (3, 1)] [(.pointer none), (vi 0), (.slice none 0 0), (.slice none 0 0)] [(0, x0), (1, v1)] fun v2 =>
 aV (Value.cells v2).toList H fun v3 H4 =>
 some (v3, H4)) = some r) : FF kM [x0, x1] H = some r :=
 fo Tryz.func61 (by kernel_rfl) h
theorem yz (x0 x1 x2 : Value) (H : AH) {r : Value × AH} (h : (
 (gL [x1, (vi 1)]).bind fun v0 =>
 (iJ [v0, (vi 4)]).bind fun v1 =>
 (gL [x2, (vi 1)]).bind fun v2 =>
 (iJ [v2, (vi 4)]).bind fun v3 =>
 g6 [(0, 1), (1, 1), (2, 1)] [(.pointer none), (vi 0), (vi 0)] [(0, x0), (1, v1), (2, v3)] fun v4 =>
 aV (Value.cells v4).toList H fun v5 H6 =>
 some (v5, H6)) = some r) : FF kO [x0, x1, x2] H = some r :=
 fo Tryz.func62 (by kernel_rfl) h
theorem BP (x0 x1 : Value) (H : AH) {r : Value × AH} (h : (
 (gL [x1, (vi 1)]).bind fun v0 =>
 (iJ [v0, (vi 6)]).bind fun v1 =>
 g6 [(0, 1), (1, 1), (2, 1), (3, 1), (4, 1), (5, 1)] [(.pointer none), (vi 0), (.slice none 0 0), (.slice none 0 0), (.slice none 0 0), (.slice none 0 0)] [(0, x0), (1, v1)] fun v2 =>
 aV (Value.cells v2).toList H fun v3 H4 =>
 some (v3, H4)) = some r) : FF mg [x0, x1] H = some r :=
 fo Tryz.func63 (by kernel_rfl) h
theorem BO (x0 : Value) (H : AH) {r : Value × AH} (h : (
 aV (Value.cells x0).toList H fun v0 H1 =>
 ld [.f 0] v0 H1 fun v2 =>
 ld [.f 3] v0 H1 fun v3 =>
 (FF aaL [v2, v3] H1).bind fun r4 =>
 g6 [(0, 1), (1, 1), (2, 1), (3, 1), (4, 1), (5, 1), (6, 1), (7, 1), (8, 1)] [(.pointer none), (vw 0), (vw 0), (vi 0), (.slice none 0 0), (.slice none 0 0), (vb false), (vi 0), (vw 0)] [(0, r4.1)] fun v5 =>
 aV (Value.cells v5).toList r4.2 fun v6 H7 =>
 some (v6, H7)) = some r) : FF mf [x0] H = some r :=
 fo Tryz.func64 (by kernel_rfl) h
theorem BK (x0 x1 : Value) (H : AH) {r : Value × AH} (h : (
 (ai .other .lss x0 (vw 1)).bind fun v0 =>
 (gV v0 false x0).bind fun v1 =>
 (gB v0 false (ai .other .gtr v1 (vw 4611686018427387904))).bind fun v2 =>
 (aQ v0 (vb true) v2).bind fun v3 =>
 (gV v3 false x1).bind fun v4 =>
 (gB v3 false (ai .other .lss v4 (vi 1))).bind fun v5 =>
 (aQ v3 (vb true) v5).bind fun v6 =>
 (gV v6 false x1).bind fun v7 =>
 (gB v6 false (ai .other .gtr v7 (vi 65536))).bind fun v8 =>
 (aQ v6 (vb true) v8).bind fun v9 =>
 ax v9
 (some (Value.tuple #[(vw 0), (vb false)], H))
 ((bJ (some .u64) x1).bind fun v10 =>
 (ai .other .quo x0 v10).bind fun v11 =>
 (gL [v11, (vw 1)]).bind fun v12 =>
 some (Value.tuple #[v12, (vb true)], H))) = some r) : FF me [x0, x1] H = some r :=
 fo Tryz.func65 (by kernel_rfl) h
theorem qY (x0 x1 x2 : Value) (H : AH) {r : Value × AH} (h : (
 aV (Value.cells x2).toList H fun v0 H1 =>
 ld [.n, .f 10] x0 H1 fun v2 =>
 dG v2 fun v3 =>
 ld [.n, .f 0] x0 H1 fun v4 =>
 g6 [(0, 1), (1, 1), (2, 1)] [(vi 0), (vi 0), (vi 0)] [(0, (vi 13)), (1, v3)] fun v5 =>
 (FF eE [v4, x1, v5] H1).bind fun r6 =>
 ad [.n, .f 10] x0 fun v7 =>
 (aq v7 r6.2).bind fun v8 =>
 (aD 3 v0 r6.2).bind fun v9 =>
 ld [.n, .f 0] x0 r6.2 fun v10 =>
 ld [.f 1] v0 r6.2 fun v11 =>
 (FF sn [v10, v3, v11] r6.2).bind fun r12 =>
 bD (aq v7 r12.2) (aq v7 r6.2) <|
 bD (aD 3 v0 r12.2) (aD 3 v0 r6.2) <|
 g6 [(0, 3), (3, 1)] [(vi 0), (vi 0), (vw 0), (.pointer none)] [(0, v9), (1, r12.1)] fun v13 =>
 vJ 1 4 [(vi 0), (vi 0), (vw 0), (.pointer none)] [(0, v13)] r12.2 fun v14 H15 =>
 (dq 4 32 v8 v14 H15).bind fun r16 =>
 st 1 [.n, .f 10] x0 r16.1 r16.2 fun H17 =>
 some (v3, H17)) = some r) : FF gF [x0, x1, x2] H = some r :=
 fo Tryz.func66 (by kernel_rfl) h
theorem uu (x0 x1 x2 : Value) (H : AH) {r : Value × AH} (h : (
 aV (Value.cells x2).toList H fun v0 H1 =>
 ld [.n, .f 10] x0 H1 fun v2 =>
 dG v2 fun v3 =>
 ad [.n, .f 5] x0 fun v4 =>
 (aq v4 H1).bind fun v5 =>
 (FF bB [(vi 13), v3, (vi 0)] H1).bind fun r6 =>
 bD (aq v4 r6.2) (aq v4 H1) <|
 (FF bO [v5, x1, (vi 6), r6.1] r6.2).bind fun r7 =>
 ld [.n, .f 10] x0 r7.2 fun v8 =>
 (aD 3 v0 r7.2).bind fun v9 =>
 vJ 1 3 [(vi 0), (vi 0), (vw 0)] [(0, v9)] r7.2 fun v10 H11 =>
 (dq 3 24 v8 v10 H11).bind fun r12 =>
 ad [.n, .f 11] x0 fun v13 =>
 (aq v13 r12.2).bind fun v14 =>
 bD (aq v13 H11) (aq v13 r12.2) <|
 ad [.n, .f 5] x0 fun v15 =>
 (aq v15 r12.2).bind fun v16 =>
 bD (aq v15 H11) (aq v15 r12.2) <|
 ad [.f 1] v0 fun v17 =>
 (aq v17 r12.2).bind fun v18 =>
 bD (aq v17 H11) (aq v17 r12.2) <|
 (FF mh [v16, v3, v18] r12.2).bind fun r19 =>
 bD (aq v13 r19.2) (aq v13 r12.2) <|
 vJ 1 1 [(.pointer none)] [(0, r19.1)] r19.2 fun v20 H21 =>
 (dq 1 8 v14 v20 H21).bind fun r22 =>
 st 1 [.n, .f 10] x0 r12.1 r22.2 fun H23 =>
 st 1 [.n, .f 11] x0 r22.1 H23 fun H24 =>
 some (v3, H24)) = some r) : FF i4 [x0, x1, x2] H = some r :=
 fo Tryz.func67 (by kernel_rfl) h
theorem sR (x0 x1 x2 x3 x4 x5 : Value) (H : AH) {r : Value × AH} (h : (
 (ai .other .lss x4 (vi 0)).bind fun v0 =>
 (gV v0 false x4).bind fun v1 =>
 (gB v0 false (ai .other .gtr v1 (vi 1048576))).bind fun v2 =>
 (aQ v0 (vb true) v2).bind fun v3 =>
 (gV v3 false x5).bind fun v4 =>
 (gB v3 false (ai .other .lss v4 (vi 0))).bind fun v5 =>
 (aQ v3 (vb true) v5).bind fun v6 =>
 (gV v6 false x5).bind fun v7 =>
 (gB v6 false (ai .other .geq v7 (vi 4294967296))).bind fun v8 =>
 (aQ v6 (vb true) v8).bind fun v9 =>
 ax v9
 (some ((vb false), H))
 (ad [.n, .f 0] x0 fun v10 =>
 (aq v10 H).bind fun v11 =>
 (FF iw [x2, x3] H).bind fun r12 =>
 bD (aq v10 r12.2) (aq v10 H) <|
 (ai .other .add x4 (vi 1)).bind fun v13 =>
 (bJ (some .u64) v13).bind fun v14 =>
 (ai .other .shl v14 (vw 32)).bind fun v15 =>
 (bJ (some .u64) x5).bind fun v16 =>
 (ai .other .or v15 v16).bind fun v17 =>
 (FF cq [v11, x1, r12.1, v17] r12.2).bind fun r18 =>
 some ((vb true), r18.2))) = some r) : FF iv [x0, x1, x2, x3, x4, x5] H = some r :=
 fo Tryz.func68 (by kernel_rfl) h
theorem wh (x0 x1 x2 x3 x4 x5 : Value) (H : AH) {r : Value × AH} (h : (
 (ai .other .lss x4 (vi 0)).bind fun v0 =>
 (gV v0 false x4).bind fun v1 =>
 (gB v0 false (ai .other .gtr v1 (vi 1048576))).bind fun v2 =>
 (aQ v0 (vb true) v2).bind fun v3 =>
 (gV v3 false x5).bind fun v4 =>
 (gB v3 false (ai .other .lss v4 (vi 0))).bind fun v5 =>
 (aQ v3 (vb true) v5).bind fun v6 =>
 (gV v6 false x5).bind fun v7 =>
 (gB v6 false (bJ (some .u64) v7)).bind fun v8 =>
 (gB v6 false (ai .other .geq v8 (vw 4294967296))).bind fun v9 =>
 (aQ v6 (vb true) v9).bind fun v10 =>
 ax v10
 (some ((vb false), H))
 (ad [.n, .f 0] x0 fun v11 =>
 (aq v11 H).bind fun v12 =>
 (FF bB [(vi 10), x2, x3] H).bind fun r13 =>
 bD (aq v11 r13.2) (aq v11 H) <|
 (ai .other .add x4 (vi 1)).bind fun v14 =>
 (bJ (some .u64) v14).bind fun v15 =>
 (ai .other .mul v15 (vw 4294967296)).bind fun v16 =>
 (bJ (some .u64) x5).bind fun v17 =>
 (ai .other .add v16 v17).bind fun v18 =>
 (FF cR [v12, x1, r13.1, v18] r13.2).bind fun r19 =>
 some ((vb true), r19.2))) = some r) : FF jO [x0, x1, x2, x3, x4, x5] H = some r :=
 fo Tryz.func69 (by kernel_rfl) h
theorem E4 (x0 x1 x2 : Value) (H : AH) {r : Value × AH} (h : (
 aV [(vi 0), (.slice none 0 0), (vi 0), (vw 0)] H fun v0 H1 =>
 (FF ka [x0, x1, x2] H1).bind fun r2 =>
 (FF j7 [x0, x2] r2.2).bind fun r3 =>
 (aj r3.1 0).bind fun v4 =>
 (aj r3.1 1).bind fun v5 =>
 (dn 4 v0 v4 r3.2).bind fun H6 =>
 (aD 4 v0 H6).bind fun v7 => some (Value.tuple #[v7, v5], H6)) = some r) : FF gW [x0, x1, x2] H = some r :=
 fo Tryz.func70 (by kernel_rfl) h
noncomputable def fM (p : List Nat) : Code := Code.sub (bG Tryz.f72) p
noncomputable def hZ : KK := dR PP (Tryz.f72).results.toList
noncomputable def YK : KK := CQ (fM [1, 1]) hZ bq hZ
noncomputable def acE (x0 x1 x2 x6 x7 x8 : Value) (H : AH) : OV := YK (ls [x0, x1, x2, u, u, u, x6, x7, x8] 54) H
noncomputable def MB : KK := CQ (fM [1, 1, 1]) hZ bq hZ
noncomputable def aiQ : KK := dd 9223372036854775608 MB
noncomputable def acF (x0 x1 x2 x6 x7 : Value) (H : AH) : OV := MB (ls [x0, x1, x2, u, u, u, x6, x7] 55) H
noncomputable def YM : KK := CQ (fM [1, 1, 1, 1]) hZ bq hZ
noncomputable def Ol (x0 x1 x2 x6 : Value) (H : AH) : OV := YM (ls [x0, x1, x2, u, u, u, x6] 56) H
noncomputable def ME : KX := BX 2 hZ bq
noncomputable def MF : KX := ml 9223372036854775807 ME
noncomputable def MC : KK := ri (fM [1, 1, 1, 1, 4, 5]) MF hZ
noncomputable def AO : KK := dd 9223372036854775736 MC
noncomputable def Hu (x0 x1 x2 x6 : Value) (H : AH) : OV := MC (ls [x0, x1, x2, u, u, u, x6] 56) H
noncomputable def YO : KK := CQ (fM [1, 1, 1, 1, 4, 5, 1]) AO MF hZ
noncomputable def acG (x0 x1 x2 x6 : Value) (H : AH) : OV := YO (ls [x0, x1, x2, u, u, u, x6] 56) H
noncomputable def YU : KX := BX 3 AO MF
noncomputable def Gj : KX := ml 9223372036854775736 YU
noncomputable def YQ : KK := CQ (fM [1, 1, 1, 1, 4, 5, 1, 4, 1]) AO Gj hZ
noncomputable def acH (x0 x1 x2 x6 x7 x8 : Value) (H : AH) : OV := YQ (ls [x0, x1, x2, u, u, u, x6, x7, x8] 54) H
noncomputable def MD : KK := CQ (fM [1, 1, 1, 1, 4, 5, 1, 4, 1, 1]) AO Gj hZ
noncomputable def aiR : KK := dd 9223372036854775608 MD
noncomputable def acI (x0 x1 x2 x6 x7 : Value) (H : AH) : OV := MD (ls [x0, x1, x2, u, u, u, x6, x7] 55) H
noncomputable def YS : KK := CQ (fM [1, 1, 1, 1, 4, 5, 1, 4, 1, 1, 1]) AO Gj hZ
noncomputable def Hv (x0 x1 x2 x6 : Value) (H : AH) : OV := YS (ls [x0, x1, x2, u, u, u, x6] 56) H
noncomputable def Ge : KX := BX 4 aiR Gj
noncomputable def Gg : KX := ml 9223372036854775608 Ge
noncomputable def Gb : KK := ri (fM [1, 1, 1, 1, 4, 5, 1, 4, 1, 0, 4, 5]) Gg hZ
noncomputable def QD : KK := dd 9223372036854775352 Gb
noncomputable def zj (x0 x1 x2 x6 x7 x8 : Value) (H : AH) : OV := Gb (ls [x0, x1, x2, u, u, u, x6, x7, x8] 54) H
noncomputable def QF : KK := CQ (fM [1, 1, 1, 1, 4, 5, 1, 4, 1, 0, 4, 5, 1]) QD Gg hZ
noncomputable def RS (x0 x1 x2 x6 x7 x8 : Value) (H : AH) : OV := QF (ls [x0, x1, x2, u, u, u, x6, x7, x8] 54) H
noncomputable def afD : KX := BX 5 QD Gg
noncomputable def Ex (x0 x1 x2 x6 x7 : Value) (H : AH) : OV := Ge 4 (ls [x0, x1, x2, u, u, u, x6, x7] 55) H
noncomputable def Kg (H : AH) : OV := ME 2 (ls [] 63) H
noncomputable def Gf : KX := BX 0 aiQ bq
noncomputable def Gi : KX := ml 9223372036854775608 Gf
noncomputable def Gc : KK := ri (fM [1, 1, 0, 4, 5]) Gi hZ
noncomputable def QE : KK := dd 9223372036854775352 Gc
noncomputable def zk (x0 x1 x2 x6 x7 x8 : Value) (H : AH) : OV := Gc (ls [x0, x1, x2, u, u, u, x6, x7, x8] 54) H
noncomputable def QG : KK := CQ (fM [1, 1, 0, 4, 5, 1]) QE Gi hZ
noncomputable def RT (x0 x1 x2 x6 x7 x8 : Value) (H : AH) : OV := QG (ls [x0, x1, x2, u, u, u, x6, x7, x8] 54) H
noncomputable def afE : KX := BX 1 QE Gi
noncomputable def Ey (x0 x1 x2 x6 x7 : Value) (H : AH) : OV := Gf 0 (ls [x0, x1, x2, u, u, u, x6, x7] 55) H
theorem dL : au 9223372036854775807 hZ := rf
theorem YL : au 9223372036854775352 YK := rc dL aB dL
theorem I3 : au 9223372036854775608 MB := rc dL aB dL
theorem YN : au 9223372036854775736 YM := rc dL aB dL
theorem tF : ∀ i, au 9223372036854775807 (ME i) := rb dL aB
theorem kF : au 9223372036854775736 MC := rl (cx tF) dL
theorem YP : au 9223372036854775736 YO := rc (cd kF) (cx tF) dL
theorem o9 : ∀ i, au 9223372036854775736 (YU i) := rb (cd kF) (cx tF)
theorem YR : au 9223372036854775352 YQ := rc (cd kF) (cx o9) dL
theorem I4 : au 9223372036854775608 MD := rc (cd kF) (cx o9) dL
theorem YT : au 9223372036854775736 YS := rc (cd kF) (cx o9) dL
theorem qB : ∀ i, au 9223372036854775608 (Ge i) := rb (cd I4) (cx o9)
theorem qz : au 9223372036854775352 Gb := rl (cx qB) dL
theorem Ud : au 9223372036854775352 QF := rc (cd qz) (cx qB) dL
theorem Uf : ∀ i, au 9223372036854775352 (afD i) := rb (cd qz) (cx qB)
theorem qC : ∀ i, au 9223372036854775608 (Gf i) := rb (cd I3) aB
theorem qA : au 9223372036854775352 Gc := rl (cx qC) dL
theorem Ue : au 9223372036854775352 QG := rc (cd qA) (cx qC) dL
theorem Ug : ∀ i, au 9223372036854775352 (afE i) := rb (cd qA) (cx qC)
theorem VF (x0 x1 x2 x6 : Value) (H : AH) : Hv x0 x1 x2 x6 H =
 (ai .other .mul x6 (vi 2)).bind fun v10 =>
 Hu x0 x1 x2 v10 H :=
 (by kernel_rfl)
theorem VE (x0 x1 x2 x6 x7 : Value) (H : AH) : acI x0 x1 x2 x6 x7 H =
 (ai .other .add x7 x6).bind fun v11 =>
 (ai .other .lss v11 x1).bind fun v12 =>
 ax v12
 ((FF DY [x0, x7, v11, x1, x2] H).bind fun r13 =>
 Hv x0 x1 x2 x6 r13.2)
 (Hv x0 x1 x2 x6 H) :=
 (pt rfl 0 YT (by kernel_rfl))
theorem Ok (x0 x1 x2 x6 x7 x8 : Value) (H : AH) : RS x0 x1 x2 x6 x7 x8 H =
 (ai .other .add x7 x6).bind fun v18 =>
 (FF DY [x0, x7, v18, x8, x2] H).bind fun r19 =>
 (ai .other .mul (vi 2) x6).bind fun v20 =>
 (ai .other .add x8 v20).bind fun v21 =>
 zj x0 x1 x2 x6 x8 v21 r19.2 :=
 (bt rfl (fM [1, 1, 1, 1, 4, 5, 1, 4, 1, 0, 4, 5, 1, 4]) 5 Uf (by kernel_rfl))
theorem Hr (x0 x1 x2 x6 x7 : Value) (H : AH) : Ex x0 x1 x2 x6 x7 H = acI x0 x1 x2 x6 x7 H :=
 (by kernel_rfl)
theorem Oj (x0 x1 x2 x6 x7 x8 : Value) (H : AH) : zj x0 x1 x2 x6 x7 x8 H =
 (ai .other .leq x8 x1).bind fun v22 =>
 ax v22
 (RS x0 x1 x2 x6 x7 x8 H)
 (Ex x0 x1 x2 x6 x7 H) :=
 rG rfl qz (pt rfl 0 Ud (by kernel_rfl))
theorem VD (x0 x1 x2 x6 x7 x8 : Value) (H : AH) : acH x0 x1 x2 x6 x7 x8 H =
 zj x0 x1 x2 x6 x7 x8 H :=
 (pt rfl 0 I4 (bt rfl (fM [1, 1, 1, 1, 4, 5, 1, 4, 1, 0, 4]) 4 qB (li rfl (fM [1, 1, 1, 1, 4, 5, 1, 4, 1, 0, 4, 5]) qz (by kernel_rfl))))
theorem VC (x0 x1 x2 x6 : Value) (H : AH) : acG x0 x1 x2 x6 H =
 (ai .other .mul (vi 2) x6).bind fun v23 =>
 acH x0 x1 x2 x6 (vi 0) v23 H :=
 (bt rfl (fM [1, 1, 1, 1, 4, 5, 1, 4]) 3 o9 (pt rfl 0 YR (by kernel_rfl)))
theorem Kh (H : AH) : Kg H = some (Value.tuple #[], H) :=
 (by kernel_rfl)
theorem VB (x0 x1 x2 x6 : Value) (H : AH) : Hu x0 x1 x2 x6 H =
 (ai .other .lss x6 x1).bind fun v24 =>
 ax v24
 (acG x0 x1 x2 x6 H)
 (Kg H) :=
 rG rfl kF (pt rfl 0 YP (by kernel_rfl))
theorem VA (x0 x1 x2 x6 : Value) (H : AH) : Ol x0 x1 x2 x6 H =
 Hu x0 x1 x2 x6 H :=
 (bt rfl (fM [1, 1, 1, 1, 4]) 2 tF (li rfl (fM [1, 1, 1, 1, 4, 5]) kF (by kernel_rfl)))
theorem Vz (x0 x1 x2 x6 x7 : Value) (H : AH) : acF x0 x1 x2 x6 x7 H =
 (FF Q4 [x0, x7, x1, x2] H).bind fun r25 =>
 Ol x0 x1 x2 x6 r25.2 :=
 (pt rfl 0 YN (by kernel_rfl))
theorem On (x0 x1 x2 x6 x7 x8 : Value) (H : AH) : RT x0 x1 x2 x6 x7 x8 H =
 (FF Q4 [x0, x7, x8, x2] H).bind fun r30 =>
 (ai .other .add x8 x6).bind fun v31 =>
 zk x0 x1 x2 x6 x8 v31 r30.2 :=
 (bt rfl (fM [1, 1, 0, 4, 5, 1, 4]) 1 Ug (by kernel_rfl))
theorem Ht (x0 x1 x2 x6 x7 : Value) (H : AH) : Ey x0 x1 x2 x6 x7 H = acF x0 x1 x2 x6 x7 H :=
 (by kernel_rfl)
theorem Om (x0 x1 x2 x6 x7 x8 : Value) (H : AH) : zk x0 x1 x2 x6 x7 x8 H =
 (ai .other .leq x8 x1).bind fun v32 =>
 ax v32
 (RT x0 x1 x2 x6 x7 x8 H)
 (Ey x0 x1 x2 x6 x7 H) :=
 rG rfl qA (pt rfl 0 Ue (by kernel_rfl))
theorem Vy (x0 x1 x2 x6 x7 x8 : Value) (H : AH) : acE x0 x1 x2 x6 x7 x8 H =
 zk x0 x1 x2 x6 x7 x8 H :=
 (pt rfl 0 I3 (bt rfl (fM [1, 1, 0, 4]) 0 qC (li rfl (fM [1, 1, 0, 4, 5]) qA (by kernel_rfl))))
noncomputable def sSt (x0 x1 x2 : Value) (H : AH) : OV := aU PP GG FF (fM []) (ls [x0, x1, x2] 60) H hZ bq hZ
theorem ajQ (x0 x1 x2 : Value) (H : AH) {r : Value × AH} (h : (
 acE x0 x1 x2 (vi 20) (vi 0) (vi 20) H) = some r) : FF aaT [x0, x1, x2] H = some r :=
 fo (t := sSt x0 x1 x2 H) Tryz.func72 (by kernel_rfl) (Eq.trans (pt rfl 1 YL (by kernel_rfl)) h)
theorem ajJ (x0 : Value) (H : AH) {r : Value × AH} (h : (
 (ai .slice .eql x0 (.slice none 0 0)).bind fun v0 =>
 ax v0
 (some ((.slice none 0 0), H))
 (vJ 0 3 [(vi 0), (vi 0), (vi 0)] [] H fun v1 H2 =>
 (dq 3 24 v1 x0 H2).bind fun r3 =>
 some (r3.1, r3.2))) = some r) : FF aaO [x0] H = some r :=
 fo Tryz.func74 (by kernel_rfl) h
noncomputable def wN (p : List Nat) : Code := Code.sub (bG Tryz.f75) p
noncomputable def rq : KK := dR PP (Tryz.f75).results.toList
noncomputable def YW : KK := CQ (wN [1, 1]) rq bq rq
noncomputable def tO (x0 x1 x2 x6 : Value) (H : AH) : OV := YW (ls [x0, x1, x2, u, u, u, x6] 23) H
noncomputable def MG : KK := CQ (wN [1, 1, 1]) rq bq rq
noncomputable def YV : KK := dd 1073741759 MG
noncomputable def tP (x6 : Value) (H : AH) : OV := MG (ls [u, u, u, u, u, u, x6] 23) H
noncomputable def YY : KK := CQ (wN [1, 1, 0, 1]) YV bq rq
noncomputable def tQ (x0 x1 x2 x6 x7 : Value) (H : AH) : OV := YY (ls [x0, x1, x2, u, u, u, x6, x7] 22) H
noncomputable def MI : KX := BX 0 YV bq
noncomputable def Y4 : KX := ml 1073741759 MI
noncomputable def MH : KK := ri (wN [1, 1, 0, 1, 4, 5]) Y4 rq
noncomputable def aiS : KK := dd 1073741624 MH
noncomputable def tR (x0 x1 x2 x6 x7 : Value) (H : AH) : OV := MH (ls [x0, x1, x2, u, u, u, x6, x7] 22) H
noncomputable def Y0 : KK := CQ (wN [1, 1, 0, 1, 4, 5, 1]) aiS Y4 rq
noncomputable def Gs (x0 x1 x2 x6 x7 : Value) (H : AH) : OV := Y0 (ls [x0, x1, x2, u, u, u, x6, x7] 22) H
noncomputable def ph (x6 : Value) (H : AH) : OV := MI 0 (ls [u, u, u, u, u, u, x6] 23) H
theorem nF : au 1073741759 rq := rf
theorem YX : au 1073741752 YW := rc nF aB nF
theorem AP : au 1073741759 MG := rc nF aB nF
theorem YZ : au 1073741624 YY := rc (cd AP) aB nF
theorem AS : ∀ i, au 1073741759 (MI i) := rb (cd AP) aB
theorem AQ : au 1073741624 MH := rl (cx AS) nF
theorem Y3 : au 1073741624 Y0 := rc (cd AQ) (cx AS) nF
theorem xN (x6 : Value) (H : AH) : tP x6 H =
 some ((vb true), H) :=
 (by kernel_rfl)
theorem tN (x6 : Value) (H : AH) : ph x6 H = tP x6 H :=
 (by kernel_rfl)
theorem xR (x0 x1 x2 x6 x7 : Value) (H : AH) : tR x0 x1 x2 x6 x7 H =
 dG x0 fun v13 =>
 (ai .other .lss x7 v13).bind fun v14 =>
 ax v14
 (Gs x0 x1 x2 x6 x7 H)
 (ph x6 H) :=
 rG rfl AQ (pt rfl 0 Y3 (by kernel_rfl))
theorem xO (x0 x1 x2 x6 x7 : Value) (H : AH) : tQ x0 x1 x2 x6 x7 H =
 tR x0 x1 x2 x6 x7 H :=
 (bt rfl (wN [1, 1, 0, 1, 4]) 0 AS (li rfl (wN [1, 1, 0, 1, 4, 5]) AQ (by kernel_rfl)))
theorem xM (x0 x1 x2 x6 : Value) (H : AH) : tO x0 x1 x2 x6 H =
 tQ x0 x1 x2 x6 (vi 0) H :=
 (pt rfl 0 AP (pt rfl 0 YZ (by kernel_rfl)))
noncomputable def Ul (x0 x1 x2 : Value) (H : AH) : OV := aU PP GG FF (wN []) (ls [x0, x1, x2] 27) H rq bq rq
theorem Gt (x0 x1 x2 : Value) (H : AH) {r : Value × AH} (h : (
 dG x0 fun v15 =>
 dG x1 fun v16 =>
 (ai .other .neq v15 v16).bind fun v17 =>
 ax v17
 (some ((vb false), H))
 (tO x0 x1 x2 (vb false) H)) = some r) : FF py [x0, x1, x2] H = some r :=
 fo (t := Ul x0 x1 x2 H) Tryz.func75 (by kernel_rfl) (Eq.trans (pt rfl 1 YX (by kernel_rfl)) h)
theorem uw (x0 x1 x2 : Value) (H : AH) {r : Value × AH} (h : (
 ad [.n, .f 0] x0 fun v0 =>
 (aq v0 H).bind fun v1 =>
 (FF bB [(vi 8), x2, (vi 0)] H).bind fun r2 =>
 bD (aq v0 r2.2) (aq v0 H) <|
 (FF fi [v1, x1, r2.1, (vw 0), (vw 1)] r2.2).bind fun r3 =>
 some (r3.1, r3.2)) = some r) : FF i6 [x0, x1, x2] H = some r :=
 fo Tryz.func81 (by kernel_rfl) h
theorem re (x0 x1 x2 : Value) (H : AH) {r : Value × AH} (h : (
 ad [.n, .f 0] x0 fun v0 =>
 (aq v0 H).bind fun v1 =>
 (FF bB [(vi 8), x2, (vi 0)] H).bind fun r2 =>
 bD (aq v0 r2.2) (aq v0 H) <|
 (FF cR [v1, x1, r2.1, (vw 0)] r2.2).bind fun r3 =>
 some (Value.tuple #[], r3.2)) = some r) : FF gI [x0, x1, x2] H = some r :=
 fo Tryz.func82 (by kernel_rfl) h
theorem GU (x0 : Value) (H : AH) {r : Value × AH} (h : (
 (ai .other .rem x0 (vw 2305843009213693952)).bind fun v0 =>
 (ai .other .quo x0 (vw 2305843009213693952)).bind fun v1 =>
 (bJ (some .i64) v1).bind fun v2 =>
 (ai .other .gtr v2 (vi 2)).bind fun v3 =>
 ax v3
 (some (Value.tuple #[(vw 0), (vi (-1)), (vb false)], H))
 (some (Value.tuple #[v0, v2, (vb true)], H))) = some r) : FF fh [x0] H = some r :=
 fo Tryz.func87 (by kernel_rfl) h
theorem yd (x0 x1 x2 x3 : Value) (H : AH) {r : Value × AH} (h : (
 aV (Value.cells x2).toList H fun v0 H1 =>
 (aD 3 v0 H1).bind fun v2 =>
 (FF dV [x0, v2] H1).bind fun r3 =>
 (aD 3 v0 r3.2).bind fun v4 =>
 (FF cK [x0, x1, (vi 3), v4] r3.2).bind fun r5 =>
 ld [.n, .f 0] x0 r5.2 fun v6 =>
 (aD 3 v0 r5.2).bind fun v7 =>
 g6 [(0, 1)] [(vw 0)] [(0, x3)] fun v8 =>
 (dD (.flat 3) v6 v7 v8 r5.2).bind fun H9 =>
 some (r3.1, H9)) = some r) : FF im [x0, x1, x2, x3] H = some r :=
 fo Tryz.func99 (by kernel_rfl) h
theorem xZ (x0 x1 : Value) (H : AH) {r : Value × AH} (h : (
 aV (Value.cells x1).toList H fun v0 H1 =>
 ld [.n, .f 0] x0 H1 fun v2 =>
 (aD 3 v0 H1).bind fun v3 =>
 (ci (.flat 3) (.agg #[(vw 0)]) v2 v3 false H1).bind fun v4 =>
 (jU none 0 v4).bind fun v5 =>
 some (v5, H1)) = some r) : FF dV [x0, x1] H = some r :=
 fo Tryz.func100 (by kernel_rfl) h
noncomputable def lT (p : List Nat) : Code := Code.sub (bG Tryz.f101) p
noncomputable def kw : KK := dR PP (Tryz.f101).results.toList
noncomputable def Ph : KK := CQ (lT [1]) kw bq kw
noncomputable def abJ (x0 x3 x4 : Value) (H : AH) : OV := Ph (ls [x0, u, u, x3, x4] 45) H
noncomputable def Fb : KK := CQ (lT [1, 1]) kw bq kw
noncomputable def Pg : KK := dd 1125899906842598 Fb
noncomputable def abK (x0 x3 x4 : Value) (H : AH) : OV := Fb (ls [x0, u, u, x3, x4] 45) H
noncomputable def Iu : KK := CQ (lT [1, 0, 1]) Pg bq kw
noncomputable def Rj (x0 x3 x4 x5 : Value) (H : AH) : OV := Iu (ls [x0, u, u, x3, x4, x5] 44) H
noncomputable def zY : KX := BX 0 Pg bq
noncomputable def tk : KX := ml 1125899906842598 zY
noncomputable def zV : KK := ri (lT [1, 0, 1, 4, 5]) tk kw
noncomputable def It : KK := dd 1125899906842566 zV
noncomputable def zd (x0 x3 x4 x5 : Value) (H : AH) : OV := zV (ls [x0, u, u, x3, x4, x5] 44) H
noncomputable def Iv : KK := CQ (lT [1, 0, 1, 4, 5, 1]) It tk kw
noncomputable def Rk (x0 x3 x4 x5 : Value) (H : AH) : OV := Iv (ls [x0, u, u, x3, x4, x5] 44) H
noncomputable def zW : KK := CQ (lT [1, 0, 1, 4, 5, 1, 1]) It tk kw
noncomputable def W3 : KK := dd 1125899906842566 zW
noncomputable def Rl (x0 x3 x4 x5 : Value) (H : AH) : OV := zW (ls [x0, u, u, x3, x4, x5] 44) H
noncomputable def W4 : KX := BX 1 W3 tk
noncomputable def Ea (x0 x3 x4 : Value) (H : AH) : OV := zY 0 (ls [x0, u, u, x3, x4] 45) H
theorem jv : au 1125899906842607 kw := rf
theorem SS : au 1125899906842598 Ph := rc jv aB jv
theorem vc : au 1125899906842598 Fb := rc jv aB jv
theorem LA : au 1125899906842566 Iu := rc (cd vc) aB jv
theorem ky : ∀ i, au 1125899906842598 (zY i) := rb (cd vc) aB
theorem nl : au 1125899906842566 zV := rl (cx ky) jv
theorem LB : au 1125899906842566 Iv := rc (cd nl) (cx ky) jv
theorem zX : au 1125899906842566 zW := rc (cd nl) (cx ky) jv
theorem LC : ∀ i, au 1125899906842566 (W4 i) := rb (cd zX) (cx ky)
theorem U0 (x0 x3 x4 : Value) (H : AH) : abK x0 x3 x4 H =
 ld [.n, .f 0] x0 H fun v2 =>
 (aD 3 x3 H).bind fun v3 =>
 vJ 1 3 [(vi 0), (vi 0), (vi 0)] [(0, v3)] H fun v4 H5 =>
 (dq 3 24 v2 v4 H5).bind fun r6 =>
 ad [.n, .f 1] x0 fun v7 =>
 (aq v7 r6.2).bind fun v8 =>
 bD (aq v7 H5) (aq v7 r6.2) <|
 vJ 1 1 [(vw 0)] [(0, (vw 0))] r6.2 fun v9 H10 =>
 (dq 1 8 v8 v9 H10).bind fun r11 =>
 st 1 [.n, .f 0] x0 r6.1 r11.2 fun H12 =>
 st 1 [.n, .f 1] x0 r11.1 H12 fun H13 =>
 ld [.n, .f 0] x0 H13 fun v14 =>
 dG v14 fun v15 =>
 (ai .other .sub v15 (vi 1)).bind fun v16 =>
 some (v16, H13) :=
 (by kernel_rfl)
theorem ND (x0 x3 x4 x5 : Value) (H : AH) : Rl x0 x3 x4 x5 H =
 (ai .other .add x5 (vi 1)).bind fun v22 =>
 zd x0 x3 x4 v22 H :=
 (by kernel_rfl)
theorem NC (x0 x3 x4 x5 : Value) (H : AH) : Rk x0 x3 x4 x5 H =
 ld [.n, .f 0] x0 H fun v24 =>
 ldN 3 [.i 3 x5] v24 H fun v25 =>
 (aD 3 x3 H).bind fun v26 =>
 (ai (.flat 3) .eql v25 v26).bind fun v27 =>
 ax v27
 (some (x5, H))
 (Rl x0 x3 x4 x5 H) :=
 (pt rfl 0 zX (bt rfl (lT [1, 0, 1, 4, 5, 1, 0, 4]) 1 LC (by kernel_rfl)))
theorem G2 (x0 x3 x4 : Value) (H : AH) : Ea x0 x3 x4 H = abK x0 x3 x4 H :=
 (by kernel_rfl)
theorem BU (x0 x3 x4 x5 : Value) (H : AH) : zd x0 x3 x4 x5 H =
 ld [.n, .f 0] x0 H fun v28 =>
 dG v28 fun v29 =>
 (ai .other .lss x5 v29).bind fun v30 =>
 ax v30
 (Rk x0 x3 x4 x5 H)
 (Ea x0 x3 x4 H) :=
 rG rfl nl (pt rfl 0 LB (by kernel_rfl))
theorem NB (x0 x3 x4 x5 : Value) (H : AH) : Rj x0 x3 x4 x5 H =
 zd x0 x3 x4 x5 H :=
 (bt rfl (lT [1, 0, 1, 4]) 0 ky (li rfl (lT [1, 0, 1, 4, 5]) nl (by kernel_rfl)))
theorem UZ (x0 x3 x4 : Value) (H : AH) : abJ x0 x3 x4 H =
 Rj x0 x3 x4 (vi 0) H :=
 (pt rfl 0 vc (pt rfl 0 LA (by kernel_rfl)))
noncomputable def rMp (x0 x1 : Value) (H : AH) : OV := aU PP GG FF (lT []) (ls [x0, x1] 48) H kw bq kw
theorem ajC (x0 x1 : Value) (H : AH) {r : Value × AH} (h : (
 aV (Value.cells x1).toList H fun v31 H32 =>
 abJ x0 v31 (vi 0) H32) = some r) : FF xg [x0, x1] H = some r :=
 fo (t := rMp x0 x1 H) Tryz.func101 (by kernel_rfl) (Eq.trans (pt rfl 0 SS (by kernel_rfl)) h)
theorem BN (x0 x1 x2 x3 : Value) (H : AH) {r : Value × AH} (h : (
 aV (Value.cells x3).toList H fun v0 H1 =>
 ld [.n, .f 2] x0 H1 fun v2 =>
 (aD 3 v0 H1).bind fun v3 =>
 g6 [(0, 1), (1, 1), (2, 3)] [(vi 0), (vi 0), (vi 0), (vi 0), (vi 0)] [(0, x1), (1, x2), (2, v3)] fun v4 =>
 vJ 1 5 [(vi 0), (vi 0), (vi 0), (vi 0), (vi 0)] [(0, v4)] H1 fun v5 H6 =>
 (dq 5 40 v2 v5 H6).bind fun r7 =>
 st 1 [.n, .f 2] x0 r7.1 r7.2 fun H8 =>
 some (Value.tuple #[], H8)) = some r) : FF bO [x0, x1, x2, x3] H = some r :=
 fo Tryz.func102 (by kernel_rfl) h
theorem yu (x0 x1 : Value) (H : AH) {r : Value × AH} (h : (
 aV (Value.cells x1).toList H fun v0 H1 =>
 (aD 3 v0 H1).bind fun v2 =>
 (FF xg [x0, v2] H1).bind fun r3 =>
 ld [.n, .f 1] x0 r3.2 fun v4 =>
 ld [.i 1 r3.1] v4 r3.2 fun v5 =>
 some (v5, r3.2)) = some r) : FF iq [x0, x1] H = some r :=
 fo Tryz.func104 (by kernel_rfl) h
theorem pT (x0 x1 x2 x3 : Value) (H : AH) {r : Value × AH} (h : (
 ad [.n, .f 0] x0 fun v0 =>
 (aq v0 H).bind fun v1 =>
 (FF iw [x2, x3] H).bind fun r2 =>
 bD (aq v0 r2.2) (aq v0 H) <|
 (FF cq [v1, x1, r2.1, (vw 0)] r2.2).bind fun r3 =>
 some (Value.tuple #[], r3.2)) = some r) : FF fT [x0, x1, x2, x3] H = some r :=
 fo Tryz.func109 (by kernel_rfl) h
theorem sH (x0 x1 x2 x3 : Value) (H : AH) {r : Value × AH} (h : (
 ad [.n, .f 0] x0 fun v0 =>
 (aq v0 H).bind fun v1 =>
 (FF bB [(vi 10), x2, x3] H).bind fun r2 =>
 bD (aq v0 r2.2) (aq v0 H) <|
 (FF cR [v1, x1, r2.1, (vw 0)] r2.2).bind fun r3 =>
 some (Value.tuple #[], r3.2)) = some r) : FF iu [x0, x1, x2, x3] H = some r :=
 fo Tryz.func110 (by kernel_rfl) h
theorem ye (x0 x1 x2 : Value) (H : AH) {r : Value × AH} (h : (
 (ai .other .geq x0 x1).bind fun v0 =>
 (gV v0 true x0).bind fun v1 =>
 (gV v0 true x2).bind fun v2 =>
 (gB v0 true (ai .other .leq v1 v2)).bind fun v3 =>
 (aQ v0 v3 (vb false)).bind fun v4 =>
 some (v4, H)) = some r) : FF dX [x0, x1, x2] H = some r :=
 fo Tryz.func118 (by kernel_rfl) h
noncomputable def lU (p : List Nat) : Code := Code.sub (bG Tryz.f120) p
noncomputable def kz : KK := dR PP (Tryz.f120).results.toList
noncomputable def Pl : KK := CQ (lU [1, 1, 1]) kz bq kz
noncomputable def ul (x1 x4 x5 x6 : Value) (H : AH) : OV := Pl (ls [u, x1, u, u, x4, x5, x6] 23) H
noncomputable def Fc : KK := CQ (lU [1, 1, 1, 1]) kz bq kz
noncomputable def Pi : KK := dd 1073741743 Fc
noncomputable def um (x4 x6 : Value) (H : AH) : OV := Fc (ls [u, u, u, u, x4, u, x6] 23) H
noncomputable def Pm : KK := CQ (lU [1, 1, 1, 0, 1]) Pi bq kz
noncomputable def uo (x1 x4 x6 x14 x15 : Value) (H : AH) : OV := Pm (ls [u, x1, u, u, x4, u, x6, u, u, u, u, u, u, u, x14, x15] 14) H
noncomputable def Ff : KX := BX 0 Pi bq
noncomputable def yL : KX := ml 1073741743 Ff
noncomputable def Fd : KK := ri (lU [1, 1, 1, 0, 1, 4, 5]) yL kz
noncomputable def Pj : KK := dd 1073692589 Fd
noncomputable def j1 (x1 x4 x6 x14 x15 : Value) (H : AH) : OV := Fd (ls [u, x1, u, u, x4, u, x6, u, u, u, u, u, u, u, x14, x15] 14) H
noncomputable def Pn : KK := CQ (lU [1, 1, 1, 0, 1, 4, 5, 1, 1]) Pj yL kz
noncomputable def uq (x1 x4 x6 x14 x15 : Value) (H : AH) : OV := Pn (ls [u, x1, u, u, x4, u, x6, u, u, u, u, u, u, u, x14, x15] 14) H
noncomputable def Fe : KK := CQ (lU [1, 1, 1, 0, 1, 4, 5, 1, 1, 1]) Pj yL kz
noncomputable def aeP : KK := dd 1073692589 Fe
noncomputable def ur (x1 x4 x6 x14 x15 : Value) (H : AH) : OV := Fe (ls [u, x1, u, u, x4, u, x6, u, u, u, u, u, u, u, x14, x15] 14) H
noncomputable def aeQ : KX := BX 1 aeP yL
noncomputable def pK (x4 x6 : Value) (H : AH) : OV := Ff 0 (ls [u, u, u, u, x4, u, x6] 23) H
theorem jw : au 1073741807 kz := rf
theorem ST : au 1073741709 Pl := rc jw aB jw
theorem vd : au 1073741743 Fc := rc jw aB jw
theorem SU : au 1073692589 Pm := rc (cd vd) aB jw
theorem mp : ∀ i, au 1073741743 (Ff i) := rb (cd vd) aB
theorem qk : au 1073692589 Fd := rl (cx mp) jw
theorem SV : au 1073692589 Pn := rc (cd qk) (cx mp) jw
theorem Dv : au 1073692589 Fe := rc (cd qk) (cx mp) jw
theorem SW : ∀ i, au 1073692589 (aeQ i) := rb (cd Dv) (cx mp)
theorem ym (x4 x6 : Value) (H : AH) : um x4 x6 H =
 some (x6, H) :=
 (by kernel_rfl)
theorem yp (x1 x4 x6 x14 x15 : Value) (H : AH) : ur x1 x4 x6 x14 x15 H =
 (ai .other .add x15 (vi 1)).bind fun v7 =>
 j1 x1 x4 x6 x14 v7 H :=
 (by kernel_rfl)
theorem yo (x1 x4 x6 x14 x15 : Value) (H : AH) : uq x1 x4 x6 x14 x15 H =
 ad [.n, .f 0] x6 fun v9 =>
 (aq v9 H).bind fun v10 =>
 (FF pE [x1] H).bind fun r11 =>
 bD (aq v9 r11.2) (aq v9 H) <|
 vJ 1 1 [(.pointer none)] [(0, r11.1)] r11.2 fun v12 H13 =>
 (dq 1 8 v10 v12 H13).bind fun r14 =>
 st 1 [.n, .f 0] x6 r14.1 r14.2 fun H15 =>
 ur x1 x4 x6 x14 x15 H15 :=
 (pt rfl 0 Dv (bt rfl (lU [1, 1, 1, 0, 1, 4, 5, 1, 1, 0, 4]) 1 SW (by kernel_rfl)))
theorem uk (x4 x6 : Value) (H : AH) : pK x4 x6 H = um x4 x6 H :=
 (by kernel_rfl)
theorem ou (x1 x4 x6 x14 x15 : Value) (H : AH) : j1 x1 x4 x6 x14 x15 H =
 (ai .other .lss x15 x14).bind fun v16 =>
 ax v16
 (uq x1 x4 x6 x14 x15 H)
 (pK x4 x6 H) :=
 rG rfl qk (pt rfl 1 SV (by kernel_rfl))
theorem yn (x1 x4 x6 x14 x15 : Value) (H : AH) : uo x1 x4 x6 x14 x15 H =
 j1 x1 x4 x6 x14 x15 H :=
 (bt rfl (lU [1, 1, 1, 0, 1, 4]) 0 mp (li rfl (lU [1, 1, 1, 0, 1, 4, 5]) qk (by kernel_rfl)))
theorem yl (x1 x4 x5 x6 : Value) (H : AH) : ul x1 x4 x5 x6 H =
 uo x1 x4 x6 x5 (vi 0) H :=
 (pt rfl 0 vd (pt rfl 0 SU (by kernel_rfl)))
noncomputable def UT (x0 x1 : Value) (H : AH) : OV := aU PP GG FF (lU []) (ls [x0, x1] 28) H kz bq kz
theorem GT (x0 x1 : Value) (H : AH) {r : Value × AH} (h : (
 (gL [x0, (vi 1)]).bind fun v17 =>
 (iJ [v17, (vi 16)]).bind fun v18 =>
 (FF so [v18] H).bind fun r19 =>
 g6 [(0, 1), (1, 1)] [(.slice none 0 0), (.pointer none)] [(1, r19.1)] fun v20 =>
 aV (Value.cells v20).toList r19.2 fun v21 H22 =>
 ul x1 (.pointer none) v18 v21 H22) = some r) : FF pC [x0, x1] H = some r :=
 fo (t := UT x0 x1 H) Tryz.func120 (by kernel_rfl) (Eq.trans (pt rfl 2 ST (by kernel_rfl)) h)
noncomputable def lV (p : List Nat) : Code := Code.sub (bG Tryz.f124) p
noncomputable def kA : KK := dR PP (Tryz.f124).results.toList
noncomputable def Pq : KK := CQ (lV [1, 1]) kA bq kA
noncomputable def abL (x0 x1 x4 x5 : Value) (H : AH) : OV := Pq (ls [x0, x1, u, u, x4, x5] 24) H
noncomputable def Fg : KK := CQ (lV [1, 1, 1]) kA bq kA
noncomputable def Po : KK := dd 1073741775 Fg
noncomputable def abM (x4 x5 : Value) (H : AH) : OV := Fg (ls [u, u, u, u, x4, x5] 24) H
noncomputable def Pr : KK := CQ (lV [1, 1, 0, 1]) Po bq kA
noncomputable def abN (x0 x1 x4 x5 x6 : Value) (H : AH) : OV := Pr (ls [x0, x1, u, u, x4, x5, x6] 23) H
noncomputable def Fj : KX := BX 0 Po bq
noncomputable def yM : KX := ml 1073741775 Fj
noncomputable def Fh : KK := ri (lV [1, 1, 0, 1, 4, 5]) yM kA
noncomputable def Pp : KK := dd 1073741708 Fh
noncomputable def G3 (x0 x1 x4 x5 x6 : Value) (H : AH) : OV := Fh (ls [x0, x1, u, u, x4, x5, x6] 23) H
noncomputable def Ps : KK := CQ (lV [1, 1, 0, 1, 4, 5, 1]) Pp yM kA
noncomputable def abO (x0 x1 x4 x5 x6 : Value) (H : AH) : OV := Ps (ls [x0, x1, u, u, x4, x5, x6] 23) H
noncomputable def Fi : KK := CQ (lV [1, 1, 0, 1, 4, 5, 1, 1]) Pp yM kA
noncomputable def aeR : KK := dd 1073741708 Fi
noncomputable def abP (x0 x1 x4 x5 x6 : Value) (H : AH) : OV := Fi (ls [x0, x1, u, u, x4, x5, x6] 23) H
noncomputable def aeS : KX := BX 1 aeR yM
noncomputable def J2 (x4 x5 : Value) (H : AH) : OV := Fj 0 (ls [u, u, u, u, x4, x5] 24) H
theorem jx : au 1073741807 kA := rf
theorem SX : au 1073741772 Pq := rc jx aB jx
theorem ve : au 1073741775 Fg := rc jx aB jx
theorem SY : au 1073741708 Pr := rc (cd ve) aB jx
theorem mq : ∀ i, au 1073741775 (Fj i) := rb (cd ve) aB
theorem ql : au 1073741708 Fh := rl (cx mq) jx
theorem SZ : au 1073741708 Ps := rc (cd ql) (cx mq) jx
theorem Dw : au 1073741708 Fi := rc (cd ql) (cx mq) jx
theorem S3 : ∀ i, au 1073741708 (aeS i) := rb (cd Dw) (cx mq)
theorem U2 (x4 x5 : Value) (H : AH) : abM x4 x5 H =
 some (x5, H) :=
 (by kernel_rfl)
theorem U5 (x0 x1 x4 x5 x6 : Value) (H : AH) : abP x0 x1 x4 x5 x6 H =
 (ai .other .add x6 (vi 1)).bind fun v7 =>
 G3 x0 x1 x4 x5 v7 H :=
 (by kernel_rfl)
theorem U4 (x0 x1 x4 x5 x6 : Value) (H : AH) : abO x0 x1 x4 x5 x6 H =
 ad [.n, .f 0] x5 fun v9 =>
 (aq v9 H).bind fun v10 =>
 (FF pD [x1] H).bind fun r11 =>
 bD (aq v9 r11.2) (aq v9 H) <|
 g6 [(0, 1), (1, 1), (2, 1), (3, 1)] [(.slice none 0 0), (vw 0), (vi 0), (vb false)] [(2, r11.1), (3, (vb true))] fun v12 =>
 aV (Value.cells v12).toList r11.2 fun v13 H14 =>
 vJ 1 1 [(.pointer none)] [(0, v13)] H14 fun v15 H16 =>
 (dq 1 8 v10 v15 H16).bind fun r17 =>
 st 1 [.n, .f 0] x5 r17.1 r17.2 fun H18 =>
 abP x0 x1 x4 x5 x6 H18 :=
 (pt rfl 0 Dw (bt rfl (lV [1, 1, 0, 1, 4, 5, 1, 0, 4]) 1 S3 (by kernel_rfl)))
theorem J3 (x4 x5 : Value) (H : AH) : J2 x4 x5 H = abM x4 x5 H :=
 (by kernel_rfl)
theorem Eb (x0 x1 x4 x5 x6 : Value) (H : AH) : G3 x0 x1 x4 x5 x6 H =
 (gL [x0, (vi 1)]).bind fun v19 =>
 (iJ [v19, (vi 16)]).bind fun v20 =>
 (ai .other .lss x6 v20).bind fun v21 =>
 ax v21
 (abO x0 x1 x4 x5 x6 H)
 (J2 x4 x5 H) :=
 rG rfl ql (pt rfl 0 SZ (by kernel_rfl))
theorem U3 (x0 x1 x4 x5 x6 : Value) (H : AH) : abN x0 x1 x4 x5 x6 H =
 G3 x0 x1 x4 x5 x6 H :=
 (bt rfl (lV [1, 1, 0, 1, 4]) 0 mq (li rfl (lV [1, 1, 0, 1, 4, 5]) ql (by kernel_rfl)))
theorem U1 (x0 x1 x4 x5 : Value) (H : AH) : abL x0 x1 x4 x5 H =
 abN x0 x1 x4 x5 (vi 0) H :=
 (pt rfl 0 ve (pt rfl 0 SY (by kernel_rfl)))
noncomputable def rNQ (x0 x1 : Value) (H : AH) : OV := aU PP GG FF (lV []) (ls [x0, x1] 28) H kA bq kA
theorem ajD (x0 x1 : Value) (H : AH) {r : Value × AH} (h : (
 g6 [(0, 1)] [(.slice none 0 0)] [] fun v22 =>
 aV (Value.cells v22).toList H fun v23 H24 =>
 abL x0 x1 (.pointer none) v23 H24) = some r) : FF aaL [x0, x1] H = some r :=
 fo (t := rNQ x0 x1 H) Tryz.func124 (by kernel_rfl) (Eq.trans (pt rfl 1 SX (by kernel_rfl)) h)
theorem vH (x0 x1 x2 : Value) (H : AH) {r : Value × AH} (h : (
 aV (Value.cells x2).toList H fun v0 H1 =>
 (aD 3 v0 H1).bind fun v2 =>
 (FF cK [x0, x1, (vi 6), v2] H1).bind fun r3 =>
 some (Value.tuple #[], r3.2)) = some r) : FF eE [x0, x1, x2] H = some r :=
 fo Tryz.func125 (by kernel_rfl) h
theorem J6 (x0 x1 x2 : Value) (H : AH) {r : Value × AH} (h : (
 (gL [x2, (vi 1)]).bind fun v0 =>
 (iJ [v0, (vi 8)]).bind fun v1 =>
 (kQ [(vi 0), (vi 0), (vi 0)] 3 24 v1 v1 H).bind fun r2 =>
 g6 [(0, 1), (1, 1), (2, 1)] [(.pointer none), (vi 0), (.slice none 0 0)] [(0, x0), (1, x1), (2, r2.1)] fun v3 =>
 aV (Value.cells v3).toList r2.2 fun v4 H5 =>
 some (v4, H5)) = some r) : FF sn [x0, x1, x2] H = some r :=
 fo Tryz.func126 (by kernel_rfl) h
theorem BQ (x0 x1 x2 : Value) (H : AH) {r : Value × AH} (h : (
 (gL [x2, (vi 1)]).bind fun v0 =>
 (iJ [v0, (vi 8)]).bind fun v1 =>
 (kQ [(vi 0), (vi 0), (vi 0)] 3 24 v1 v1 H).bind fun r2 =>
 g6 [(0, 1), (1, 1), (2, 1), (3, 1)] [(.pointer none), (vi 0), (vi 0), (.slice none 0 0)] [(0, x0), (1, x1), (2, v1), (3, r2.1)] fun v3 =>
 aV (Value.cells v3).toList r2.2 fun v4 H5 =>
 some (v4, H5)) = some r) : FF mh [x0, x1, x2] H = some r :=
 fo Tryz.func127 (by kernel_rfl) h
theorem vG (x0 x1 x2 x3 : Value) (H : AH) {r : Value × AH} (h : (
 aV (Value.cells x2).toList H fun v0 H1 =>
 (aD 3 v0 H1).bind fun v2 =>
 (FF cK [x0, x1, (vi 2), v2] H1).bind fun r3 =>
 ld [.n, .f 0] x0 r3.2 fun v4 =>
 (aD 3 v0 r3.2).bind fun v5 =>
 g6 [(0, 1)] [(vw 0)] [(0, x3)] fun v6 =>
 (dD (.flat 3) v4 v5 v6 r3.2).bind fun H7 =>
 some (Value.tuple #[], H7)) = some r) : FF cq [x0, x1, x2, x3] H = some r :=
 fo Tryz.func128 (by kernel_rfl) h
theorem Da (x0 x1 : Value) (H : AH) {r : Value × AH} (h : (
 aV [(vi 0), (vi 0), (vi 0)] H fun v0 H1 =>
 g6 [(0, 1), (1, 1), (2, 1)] [(vi 0), (vi 0), (vi 0)] [(0, (vi 10)), (1, x0), (2, x1)] fun v2 =>
 (dn 3 v0 v2 H1).bind fun H3 =>
 (aD 3 v0 H3).bind fun v4 => some (v4, H3)) = some r) : FF iw [x0, x1] H = some r :=
 fo Tryz.func129 (by kernel_rfl) h
theorem vV (x0 x1 x2 x3 : Value) (H : AH) {r : Value × AH} (h : (
 aV (Value.cells x2).toList H fun v0 H1 =>
 (aD 3 v0 H1).bind fun v2 =>
 (FF bO [x0, x1, (vi 2), v2] H1).bind fun r3 =>
 (aD 3 v0 r3.2).bind fun v4 =>
 (FF xg [x0, v4] r3.2).bind fun r5 =>
 ld [.n, .f 1] x0 r5.2 fun v6 =>
 st 1 [.i 1 r5.1] v6 x3 r5.2 fun H7 =>
 some (Value.tuple #[], H7)) = some r) : FF cR [x0, x1, x2, x3] H = some r :=
 fo Tryz.func130 (by kernel_rfl) h
theorem Lo (x0 x1 x2 : Value) (H : AH) {r : Value × AH} (h : (
 ld [.n, .f 0] x0 H fun v0 =>
 ld [.n, .f 1] x0 H fun v1 =>
 g6 [(0, 1), (1, 1), (2, 1), (3, 1)] [(vi 0), (.slice none 0 0), (vi 0), (vw 0)] [(0, x2)] fun v2 =>
 (FF gG [v0, x1, v1, v2] H).bind fun r3 =>
 some (Value.tuple #[], r3.2)) = some r) : FF ka [x0, x1, x2] H = some r :=
 fo Tryz.func131 (by kernel_rfl) h
theorem Lj (x0 x1 : Value) (H : AH) {r : Value × AH} (h : (
 aV [(vi 0), (.slice none 0 0), (vi 0), (vw 0)] H fun v0 H1 =>
 g6 [(0, 1), (1, 1), (2, 1), (3, 1)] [(vi 0), (.slice none 0 0), (vi 0), (vw 0)] [(0, x1)] fun v2 =>
 (dn 4 v0 v2 H1).bind fun H3 =>
 (aD 4 v0 H3).bind fun v4 => some (Value.tuple #[v4, (vb true)], H3)) = some r) : FF j7 [x0, x1] H = some r :=
 fo Tryz.func132 (by kernel_rfl) h
noncomputable def gv (p : List Nat) : Code := Code.sub (bG Tryz.f137) p
noncomputable def iR : KK := dR PP (Tryz.f137).results.toList
noncomputable def Py : KK := CQ (gv [1]) iR bq iR
noncomputable def ab2 (x0 x1 x2 x3 x8 : Value) (H : AH) : OV := Py (ls [x0, x1, x2, x3, u, u, u, u, x8] 44) H
noncomputable def Fp : KX := BX 0 iR bq
noncomputable def yN : KX := ml 9007199254740991 Fp
noncomputable def Fl : KK := ri (gv [1, 4, 5]) yN iR
noncomputable def Pw : KK := dd 9007199254740720 Fl
noncomputable def Hg (x0 x1 x2 x3 x8 : Value) (H : AH) : OV := Fl (ls [x0, x1, x2, x3, u, u, u, u, x8] 44) H
noncomputable def Pz : KK := CQ (gv [1, 4, 5, 1]) Pw yN iR
noncomputable def ab3 (x0 x1 x2 x3 x8 : Value) (H : AH) : OV := Pz (ls [x0, x1, x2, x3, u, u, u, u, x8] 44) H
noncomputable def Fm : KK := CQ (gv [1, 4, 5, 1, 1]) Pw yN iR
noncomputable def Fk : KK := dd 9007199254740720 Fm
noncomputable def ab4 (x0 x1 x2 x3 x8 : Value) (H : AH) : OV := Fm (ls [x0, x1, x2, x3, u, u, u, u, x8] 44) H
noncomputable def PB : KX := BX 1 Fk yN
noncomputable def PC : KX := ml 9007199254740720 PB
noncomputable def PA : KK := CQ (gv [1, 4, 5, 1, 0, 4, 1]) Fk PC iR
noncomputable def ab5 (x0 x1 x2 x3 x8 x9 : Value) (H : AH) : OV := PA (ls [x0, x1, x2, x3, u, u, u, u, x8, x9] 43) H
noncomputable def Fq : KX := BX 2 Fk PC
noncomputable def yO : KX := ml 9007199254740720 Fq
noncomputable def Fo : KK := ri (gv [1, 4, 5, 1, 0, 4, 1, 4, 5]) yO iR
noncomputable def Px : KK := dd 9007199254740208 Fo
noncomputable def Hh (x0 x1 x2 x3 x8 x9 : Value) (H : AH) : OV := Fo (ls [x0, x1, x2, x3, u, u, u, u, x8, x9] 43) H
noncomputable def Iw : KK := CQ (gv [1, 4, 5, 1, 0, 4, 1, 4, 5, 1]) Px yO iR
noncomputable def RC (x0 x1 x2 x3 x8 x9 : Value) (H : AH) : OV := Iw (ls [x0, x1, x2, x3, u, u, u, u, x8, x9] 43) H
noncomputable def zZ : KK := CQ (gv [1, 4, 5, 1, 0, 4, 1, 4, 5, 1, 1]) Px yO iR
noncomputable def W5 : KK := dd 9007199254740208 zZ
noncomputable def RD (x0 x1 x2 x3 x8 x9 : Value) (H : AH) : OV := zZ (ls [x0, x1, x2, x3, u, u, u, u, x8, x9] 43) H
noncomputable def W6 : KX := BX 3 W5 yO
noncomputable def Ka (x0 x1 x2 x3 x8 : Value) (H : AH) : OV := Fq 2 (ls [x0, x1, x2, x3, u, u, u, u, x8] 44) H
noncomputable def J9 (H : AH) : OV := Fp 0 (ls [] 53) H
theorem f4 : au 9007199254740991 iR := rf
theorem S6 : au 9007199254740720 Py := rc f4 aB f4
theorem mr : ∀ i, au 9007199254740991 (Fp i) := rb f4 aB
theorem qm : au 9007199254740720 Fl := rl (cx mr) f4
theorem S7 : au 9007199254740720 Pz := rc (cd qm) (cx mr) f4
theorem qn : au 9007199254740720 Fm := rc (cd qm) (cx mr) f4
theorem vf : ∀ i, au 9007199254740720 (PB i) := rb (cd qn) (cx mr)
theorem S8 : au 9007199254740208 PA := rc (cd qn) (cx vf) f4
theorem mt : ∀ i, au 9007199254740720 (Fq i) := rb (cd qn) (cx vf)
theorem qo : au 9007199254740208 Fo := rl (cx mt) f4
theorem LE : au 9007199254740208 Iw := rc (cd qo) (cx mt) f4
theorem z0 : au 9007199254740208 zZ := rc (cd qo) (cx mt) f4
theorem LF : ∀ i, au 9007199254740208 (W6 i) := rb (cd z0) (cx mt)
theorem En (x0 x1 x2 x3 x8 : Value) (H : AH) : ab4 x0 x1 x2 x3 x8 H =
 (ai .other .add x8 (vi 1)).bind fun v5 =>
 Hg x0 x1 x2 x3 v5 H :=
 (by kernel_rfl)
theorem NY (x0 x1 x2 x3 x8 x9 : Value) (H : AH) : RD x0 x1 x2 x3 x8 x9 H =
 (ai .other .sub x9 (vi 1)).bind fun v12 =>
 Hh x0 x1 x2 x3 x8 v12 H :=
 (by kernel_rfl)
theorem NX (x0 x1 x2 x3 x8 x9 : Value) (H : AH) : RC x0 x1 x2 x3 x8 x9 H =
 (ai .other .sub x9 (vi 1)).bind fun v14 =>
 (ai .other .sub x9 (vi 1)).bind fun v15 =>
 ldN 7 [.i 7 v15] x0 H fun v16 =>
 ldN 7 [.i 7 x9] x0 H fun v17 =>
 st 7 [.i 7 x9] x0 v16 H fun H18 =>
 st 7 [.i 7 v14] x0 v17 H18 fun H19 =>
 RD x0 x1 x2 x3 x8 x9 H19 :=
 (pt rfl 0 z0 (bt rfl (gv [1, 4, 5, 1, 0, 4, 1, 4, 5, 1, 0, 4]) 3 LF (by kernel_rfl)))
theorem xr (x0 x1 x2 x3 x8 : Value) (H : AH) : Ka x0 x1 x2 x3 x8 H = ab4 x0 x1 x2 x3 x8 H :=
 (by kernel_rfl)
theorem Eo (x0 x1 x2 x3 x8 x9 : Value) (H : AH) : Hh x0 x1 x2 x3 x8 x9 H =
 (ai .other .gtr x9 x1).bind fun v20 =>
 (gV v20 true x3).bind fun v21 =>
 (gV v20 true x0).bind fun v22 =>
 (gV v20 true x9).bind fun v23 =>
 mI v20 true  7 [.i 7 v23] v22 H fun v24 =>
 (gV v20 true x0).bind fun v25 =>
 (gV v20 true x9).bind fun v26 =>
 (gB v20 true (ai .other .sub v26 (vi 1))).bind fun v27 =>
 mI v20 true  7 [.i 7 v27] v25 H fun v28 =>
 (gE v20 true H ((bM v21 [v24, v28]).bind fun c => FF c.1 c.2 H)).bind fun r29 =>
 (gB v20 true (ai .other .lss r29.1 (vi 0))).bind fun v30 =>
 (aQ v20 v30 (vb false)).bind fun v31 =>
 ax v31
 (RC x0 x1 x2 x3 x8 x9 r29.2)
 (Ka x0 x1 x2 x3 x8 r29.2) :=
 rG rfl qo (pt rfl 0 LE (by kernel_rfl))
theorem Vm (x0 x1 x2 x3 x8 x9 : Value) (H : AH) : ab5 x0 x1 x2 x3 x8 x9 H =
 Hh x0 x1 x2 x3 x8 x9 H :=
 (bt rfl (gv [1, 4, 5, 1, 0, 4, 1, 4]) 2 mt (li rfl (gv [1, 4, 5, 1, 0, 4, 1, 4, 5]) qo (by kernel_rfl)))
theorem Vl (x0 x1 x2 x3 x8 : Value) (H : AH) : ab3 x0 x1 x2 x3 x8 H =
 ab5 x0 x1 x2 x3 x8 x8 H :=
 (pt rfl 0 qn (bt rfl (gv [1, 4, 5, 1, 0, 4]) 1 vf (pt rfl 0 S8 (by kernel_rfl))))
theorem xq (H : AH) : J9 H = some (Value.tuple #[], H) :=
 (by kernel_rfl)
theorem wq (x0 x1 x2 x3 x8 : Value) (H : AH) : Hg x0 x1 x2 x3 x8 H =
 (ai .other .lss x8 x2).bind fun v32 =>
 ax v32
 (ab3 x0 x1 x2 x3 x8 H)
 (J9 H) :=
 rG rfl qm (pt rfl 0 S7 (by kernel_rfl))
theorem Vk (x0 x1 x2 x3 x8 : Value) (H : AH) : ab2 x0 x1 x2 x3 x8 H =
 Hg x0 x1 x2 x3 x8 H :=
 (bt rfl (gv [1, 4]) 0 mr (li rfl (gv [1, 4, 5]) qm (by kernel_rfl)))
noncomputable def sIn (x0 x1 x2 x3 : Value) (H : AH) : OV := aU PP GG FF (gv []) (ls [x0, x1, x2, x3] 49) H iR bq iR
theorem ajM (x0 x1 x2 x3 : Value) (H : AH) {r : Value × AH} (h : (
 (ai .other .add x1 (vi 1)).bind fun v33 =>
 ab2 x0 x1 x2 x3 v33 H) = some r) : FF Q4 [x0, x1, x2, x3] H = some r :=
 fo (t := sIn x0 x1 x2 x3 H) Tryz.func137 (by kernel_rfl) (Eq.trans (pt rfl 0 S6 (by kernel_rfl)) h)
theorem ux (x0 x1 x2 x3 : Value) (H : AH) {r : Value × AH} (h : (
 ad [.n, .f 0] x0 fun v0 =>
 (aq v0 H).bind fun v1 =>
 (FF bB [(vi 10), x2, x3] H).bind fun r2 =>
 bD (aq v0 r2.2) (aq v0 H) <|
 (FF dg [v1, x1, r2.1] r2.2).bind fun r3 =>
 (ai .other .eql r3.1 (vw 0)).bind fun v4 =>
 ax v4
 (some (Value.tuple #[(vi 0), (vi 0), (vb false)], r3.2))
 ((ai .other .quo r3.1 (vw 4294967296)).bind fun v5 =>
 (bJ (some .i64) v5).bind fun v6 =>
 (ai .other .sub v6 (vi 1)).bind fun v7 =>
 (ai .other .rem r3.1 (vw 4294967296)).bind fun v8 =>
 (bJ (some .i64) v8).bind fun v9 =>
 some (Value.tuple #[v7, v9, (vb true)], r3.2))) = some r) : FF i7 [x0, x1, x2, x3] H = some r :=
 fo Tryz.func141 (by kernel_rfl) h
theorem yw (x0 x1 x2 x3 x4 : Value) (H : AH) {r : Value × AH} (h : (
 aV (Value.cells x2).toList H fun v0 H1 =>
 (aD 3 v0 H1).bind fun v2 =>
 (FF xg [x0, v2] H1).bind fun r3 =>
 ld [.n, .f 1] x0 r3.2 fun v4 =>
 ld [.i 1 r3.1] v4 r3.2 fun v5 =>
 (ai .other .neq v5 x3).bind fun v6 =>
 ax v6
 ((aD 3 v0 r3.2).bind fun v7 =>
 (FF bO [x0, x1, (vi 4), v7] r3.2).bind fun r8 =>
 some ((vb false), r8.2))
 ((aD 3 v0 r3.2).bind fun v9 =>
 (FF bO [x0, x1, (vi 3), v9] r3.2).bind fun r10 =>
 ld [.n, .f 1] x0 r10.2 fun v11 =>
 st 1 [.i 1 r3.1] v11 x4 r10.2 fun H12 =>
 some ((vb true), H12))) = some r) : FF fi [x0, x1, x2, x3, x4] H = some r :=
 fo Tryz.func142 (by kernel_rfl) h
theorem yr (x0 x1 x2 : Value) (H : AH) {r : Value × AH} (h : (
 aV (Value.cells x2).toList H fun v0 H1 =>
 (aD 3 v0 H1).bind fun v2 =>
 (FF bO [x0, x1, (vi 1), v2] H1).bind fun r3 =>
 (aD 3 v0 r3.2).bind fun v4 =>
 (FF xg [x0, v4] r3.2).bind fun r5 =>
 ld [.n, .f 1] x0 r5.2 fun v6 =>
 ld [.i 1 r5.1] v6 r5.2 fun v7 =>
 some (v7, r5.2)) = some r) : FF dg [x0, x1, x2] H = some r :=
 fo Tryz.func144 (by kernel_rfl) h
theorem yc (x0 x1 x2 x3 : Value) (H : AH) {r : Value × AH} (h : (
 aV (Value.cells x3).toList H fun v0 H1 =>
 ld [.n, .f 1] x0 H1 fun v2 =>
 (aD 3 v0 H1).bind fun v3 =>
 g6 [(0, 1), (1, 1), (2, 3)] [(vi 0), (vi 0), (vi 0), (vi 0), (vi 0)] [(0, x1), (1, x2), (2, v3)] fun v4 =>
 vJ 1 5 [(vi 0), (vi 0), (vi 0), (vi 0), (vi 0)] [(0, v4)] H1 fun v5 H6 =>
 (dq 5 40 v2 v5 H6).bind fun r7 =>
 st 1 [.n, .f 1] x0 r7.1 r7.2 fun H8 =>
 some (Value.tuple #[], H8)) = some r) : FF cK [x0, x1, x2, x3] H = some r :=
 fo Tryz.func151 (by kernel_rfl) h
theorem HM (x0 : Value) (H : AH) {r : Value × AH} (h : (
 (FF dC [x0] H).bind fun r0 =>
 (ai .other .neq r0.1 (vi 1)).bind fun v1 =>
 ax v1
 (some (Value.tuple #[(vw 0), (vb false)], r0.2))
 ((FF cF [x0] r0.2).bind fun r2 =>
 (FF jC [r2.1, (vi 0)] r2.2).bind fun r3 =>
 (aj r3.1 0).bind fun v4 =>
 (aj r3.1 1).bind fun v5 =>
 some (Value.tuple #[v4, v5], r3.2))) = some r) : FF lF [x0] H = some r :=
 fo Tryz.func154 (by kernel_rfl) h
noncomputable def Fy (p : List Nat) : Code := Code.sub (bG Tryz.f155) p
noncomputable def rT : KK := dR PP (Tryz.f155).results.toList
noncomputable def PM : KK := CQ (Fy [1, 1]) rT bq rT
noncomputable def rJ (x1 x4 x5 x6 x7 x8 : Value) (H : AH) : OV := PM (ls [u, x1, u, u, x4, x5, x6, x7, x8] 47) H
noncomputable def Fz : KK := CQ (Fy [1, 1, 1]) rT bq rT
noncomputable def aeV : KK := dd 72057594037927887 Fz
noncomputable def rK (x4 x5 : Value) (H : AH) : OV := Fz (ls [u, u, u, u, x4, x5] 50) H
noncomputable def aeW : KX := BX 0 aeV bq
theorem tq : au 72057594037927887 rT := rf
theorem Tj : au 72057594037927437 PM := rc tq aB tq
theorem DC : au 72057594037927887 Fz := rc tq aB tq
theorem Tl : ∀ i, au 72057594037927887 (aeW i) := rb (cd DC) aB
theorem fJ (x4 x5 : Value) (H : AH) : rK x4 x5 H =
 some (Value.tuple #[(vw 0), (vb false)], H) :=
 (by kernel_rfl)
theorem vS (x1 x4 x5 x6 x7 x8 : Value) (H : AH) : rJ x1 x4 x5 x6 x7 x8 H =
 (ot .not x8).bind fun v3 =>
 ax v3
 (some (Value.tuple #[(vw 0), (vb false)], H))
 ((ai .other .eql x1 (vi 0)).bind fun v4 =>
 (gV v4 true x7).bind fun v5 =>
 (gB v4 true (ai .other .neq v5 (vi 2))).bind fun v6 =>
 (aQ v4 v6 (vb false)).bind fun v7 =>
 (gV v7 true x6).bind fun v8 =>
 (gB v7 true (ai .other .lss v8 (vw 2305843009213693951))).bind fun v9 =>
 (aQ v7 v9 (vb false)).bind fun v10 =>
 ax v10
 ((ai .other .add x6 (vw 1)).bind fun v11 =>
 (FF kK [v11, (vi 1)] H).bind fun r12 =>
 (aj r12.1 0).bind fun v13 =>
 (aj r12.1 1).bind fun v14 =>
 some (Value.tuple #[v13, v14], r12.2))
 ((ai .other .eql x1 (vi 1)).bind fun v15 =>
 (gV v15 true x7).bind fun v16 =>
 (gB v15 true (ai .other .eql v16 (vi 1))).bind fun v17 =>
 (aQ v15 v17 (vb false)).bind fun v18 =>
 ax v18
 ((FF kK [x6, (vi 0)] H).bind fun r19 =>
 (aj r19.1 0).bind fun v20 =>
 (aj r19.1 1).bind fun v21 =>
 some (Value.tuple #[v20, v21], r19.2))
 ((ai .other .eql x1 (vi 2)).bind fun v22 =>
 (gV v22 true x7).bind fun v23 =>
 (gB v22 true (ai .other .eql v23 (vi 0))).bind fun v24 =>
 (aQ v22 v24 (vb false)).bind fun v25 =>
 ax v25
 ((FF kK [x6, (vi 2)] H).bind fun r26 =>
 (aj r26.1 0).bind fun v27 =>
 (aj r26.1 1).bind fun v28 =>
 some (Value.tuple #[v27, v28], r26.2))
 (rK x4 x5 H)))) :=
 (pt rfl 0 DC (bt rfl (Fy [1, 1, 0, 4]) 0 Tl (by kernel_rfl)))
noncomputable def Nx (x0 x1 : Value) (H : AH) : OV := aU PP GG FF (Fy []) (ls [x0, x1] 54) H rT bq rT
theorem C4 (x0 x1 : Value) (H : AH) {r : Value × AH} (h : (
 (FF fh [x0] H).bind fun r29 =>
 (aj r29.1 0).bind fun v30 =>
 (aj r29.1 1).bind fun v31 =>
 (aj r29.1 2).bind fun v32 =>
 rJ x1 (vw 0) (vb false) v30 v31 v32 r29.2) = some r) : FF nN [x0, x1] H = some r :=
 fo (t := Nx x0 x1 H) Tryz.func155 (by kernel_rfl) (Eq.trans (pt rfl 1 Tj (by kernel_rfl)) h)
theorem HN (x0 : Value) (H : AH) {r : Value × AH} (h : (
 (FF dC [x0] H).bind fun r0 =>
 (ai .other .neq r0.1 (vi 0)).bind fun v1 =>
 ax v1
 (some (Value.tuple #[(vw 0), (vb false)], r0.2))
 ((FF cF [x0] r0.2).bind fun r2 =>
 (FF jC [r2.1, (vi 2)] r2.2).bind fun r3 =>
 (aj r3.1 0).bind fun v4 =>
 (aj r3.1 1).bind fun v5 =>
 some (Value.tuple #[v4, v5], r3.2))) = some r) : FF lG [x0] H = some r :=
 fo Tryz.func157 (by kernel_rfl) h
theorem rg (x0 x1 x2 : Value) (H : AH) {r : Value × AH} (h : (
 ad [.n, .f 0] x0 fun v0 =>
 (aq v0 H).bind fun v1 =>
 (FF jm [x2] H).bind fun r2 =>
 bD (aq v0 r2.2) (aq v0 H) <|
 (FF dW [v1, x1, r2.1, (vw 0), (vw 1)] r2.2).bind fun r3 =>
 some (r3.1, r3.2)) = some r) : FF gJ [x0, x1, x2] H = some r :=
 fo Tryz.func160 (by kernel_rfl) h
noncomputable def fP (p : List Nat) : Code := Code.sub (bG Tryz.f164) p
noncomputable def gy : KK := dR PP (Tryz.f164).results.toList
noncomputable def PQ : KK := CQ (fP [1, 1, 1]) gy bq gy
noncomputable def xy (x0 x2 x3 : Value) (H : AH) : OV := PQ (ls [x0, u, x2, x3] 38) H
noncomputable def FB : KK := CQ (fP [1, 1, 1, 1]) gy bq gy
noncomputable def aeX : KK := dd 4398046511091 FB
noncomputable def pY (x2 x3 : Value) (H : AH) : OV := FB (ls [u, u, x2, x3] 38) H
noncomputable def FC : KK := CQ (fP [1, 1, 1, 1, 1]) gy bq gy
noncomputable def PN : KK := dd 4398046511091 FC
noncomputable def xz (x2 x3 : Value) (H : AH) : OV := FC (ls [u, u, x2, x3] 38) H
noncomputable def PR : KK := CQ (fP [1, 1, 1, 1, 0, 1]) PN bq gy
noncomputable def xA (x2 x3 x28 x29 : Value) (H : AH) : OV := PR (ls [u, u, x2, x3, u, u, u, u, u, u, u, u, u, u, u, u, u, u, u, u, u, u, u, u, u, u, u, u, x28, x29] 12) H
noncomputable def FG : KX := BX 2 PN bq
noncomputable def yR : KX := ml 4398046511091 FG
noncomputable def FD : KK := ri (fP [1, 1, 1, 1, 0, 1, 4, 5]) yR gy
noncomputable def PO : KK := dd 4397241204723 FD
noncomputable def lQ (x2 x3 x28 x29 : Value) (H : AH) : OV := FD (ls [u, u, x2, x3, u, u, u, u, u, u, u, u, u, u, u, u, u, u, u, u, u, u, u, u, u, u, u, u, x28, x29] 12) H
noncomputable def PS : KK := CQ (fP [1, 1, 1, 1, 0, 1, 4, 5, 1, 1]) PO yR gy
noncomputable def xC (x2 x3 x28 x29 : Value) (H : AH) : OV := PS (ls [u, u, x2, x3, u, u, u, u, u, u, u, u, u, u, u, u, u, u, u, u, u, u, u, u, u, u, u, u, x28, x29] 12) H
noncomputable def FE : KK := CQ (fP [1, 1, 1, 1, 0, 1, 4, 5, 1, 1, 1]) PO yR gy
noncomputable def aeY : KK := dd 4397241204723 FE
noncomputable def xD (x2 x3 x28 x29 : Value) (H : AH) : OV := FE (ls [u, u, x2, x3, u, u, u, u, u, u, u, u, u, u, u, u, u, u, u, u, u, u, u, u, u, u, u, u, x28, x29] 12) H
noncomputable def aeZ : KX := BX 3 aeY yR
noncomputable def rN (x2 x3 : Value) (H : AH) : OV := FG 2 (ls [u, u, x2, x3] 38) H
noncomputable def Ax : KX := BX 0 aeX bq
noncomputable def Ay : KX := ml 4398046511091 Ax
noncomputable def Aw : KK := ri (fP [1, 1, 1, 0, 4, 5]) Ay gy
noncomputable def IV : KK := dd 4398046511090 Aw
noncomputable def j3 (x0 x2 x3 : Value) (H : AH) : OV := Aw (ls [x0, u, x2, x3] 38) H
noncomputable def IW : KK := CQ (fP [1, 1, 1, 0, 4, 5, 1]) IV Ay gy
noncomputable def uU (x0 x2 x3 : Value) (H : AH) : OV := IW (ls [x0, u, x2, x3] 38) H
noncomputable def Xt : KX := BX 1 IV Ay
noncomputable def pX (x2 x3 : Value) (H : AH) : OV := Ax 0 (ls [u, u, x2, x3] 38) H
theorem eC : au 4398046511099 gy := rf
theorem Tm : au 4398046511090 PQ := rc eC aB eC
theorem DD : au 4398046511091 FB := rc eC aB eC
theorem vl : au 4398046511091 FC := rc eC aB eC
theorem Tn : au 4397241204723 PR := rc (cd vl) aB eC
theorem mw : ∀ i, au 4398046511091 (FG i) := rb (cd vl) aB
theorem qp : au 4397241204723 FD := rl (cx mw) eC
theorem To : au 4397241204723 PS := rc (cd qp) (cx mw) eC
theorem DE : au 4397241204723 FE := rc (cd qp) (cx mw) eC
theorem Tp : ∀ i, au 4397241204723 (aeZ i) := rb (cd DE) (cx mw)
theorem nC : ∀ i, au 4398046511091 (Ax i) := rb (cd DD) aB
theorem nB : au 4398046511090 Aw := rl (cx nC) eC
theorem L8 : au 4398046511090 IW := rc (cd nB) (cx nC) eC
theorem L9 : ∀ i, au 4398046511090 (Xt i) := rb (cd nB) (cx nC)
theorem Cr (x2 x3 : Value) (H : AH) : xz x2 x3 H =
 some (x3, H) :=
 (by kernel_rfl)
theorem Cu (x2 x3 x28 x29 : Value) (H : AH) : xD x2 x3 x28 x29 H =
 (ai .other .add x29 (vi 1)).bind fun v8 =>
 lQ x2 x3 x28 v8 H :=
 (by kernel_rfl)
theorem Ct (x2 x3 x28 x29 : Value) (H : AH) : xC x2 x3 x28 x29 H =
 ld [.n, .f 2] x3 H fun v10 =>
 vJ 1 1 [(vi 0)] [(0, (vi (-1)))] H fun v11 H12 =>
 (dq 1 8 v10 v11 H12).bind fun r13 =>
 st 1 [.n, .f 2] x3 r13.1 r13.2 fun H14 =>
 xD x2 x3 x28 x29 H14 :=
 (pt rfl 0 DE (bt rfl (fP [1, 1, 1, 1, 0, 1, 4, 5, 1, 1, 0, 4]) 3 Tp (by kernel_rfl)))
theorem wz (x2 x3 : Value) (H : AH) : rN x2 x3 H = xz x2 x3 H :=
 (by kernel_rfl)
theorem pZ (x2 x3 x28 x29 : Value) (H : AH) : lQ x2 x3 x28 x29 H =
 (ai .other .lss x29 x28).bind fun v15 =>
 ax v15
 (xC x2 x3 x28 x29 H)
 (rN x2 x3 H) :=
 rG rfl qp (pt rfl 1 To (by kernel_rfl))
theorem Cs (x2 x3 x28 x29 : Value) (H : AH) : xA x2 x3 x28 x29 H =
 lQ x2 x3 x28 x29 H :=
 (bt rfl (fP [1, 1, 1, 1, 0, 1, 4]) 2 mw (li rfl (fP [1, 1, 1, 1, 0, 1, 4, 5]) qp (by kernel_rfl)))
theorem Cq (x2 x3 : Value) (H : AH) : pY x2 x3 H =
 ld [.n, .f 1] x3 H fun v16 =>
 (ai .other .mul (vi 2) v16).bind fun v17 =>
 xA x2 x3 v17 (vi 0) H :=
 (pt rfl 0 vl (pt rfl 0 Tn (by kernel_rfl)))
theorem yE (x0 x2 x3 : Value) (H : AH) : uU x0 x2 x3 H =
 ld [.n, .f 1] x3 H fun v22 =>
 (ai .other .mul v22 (vi 2)).bind fun v23 =>
 st 1 [.n, .f 1] x3 v23 H fun H24 =>
 j3 x0 x2 x3 H24 :=
 (bt rfl (fP [1, 1, 1, 0, 4, 5, 1, 4]) 1 L9 (by kernel_rfl))
theorem lP (x2 x3 : Value) (H : AH) : pX x2 x3 H = pY x2 x3 H :=
 (by kernel_rfl)
theorem oB (x0 x2 x3 : Value) (H : AH) : j3 x0 x2 x3 H =
 ld [.n, .f 1] x3 H fun v25 =>
 (ai .other .lss v25 x0).bind fun v26 =>
 ax v26
 (uU x0 x2 x3 H)
 (pX x2 x3 H) :=
 rG rfl nB (pt rfl 0 L8 (by kernel_rfl))
theorem Cp (x0 x2 x3 : Value) (H : AH) : xy x0 x2 x3 H =
 j3 x0 x2 x3 H :=
 (pt rfl 0 DD (bt rfl (fP [1, 1, 1, 0, 4]) 0 nC (li rfl (fP [1, 1, 1, 0, 4, 5]) nB (by kernel_rfl))))
noncomputable def ac8 (x0 : Value) (H : AH) : OV := aU PP GG FF (fP []) (ls [x0] 41) H gy bq gy
theorem KA (x0 : Value) (H : AH) {r : Value × AH} (h : (
 (gL [x0, (vi 1)]).bind fun v27 =>
 (iJ [v27, (vi 16)]).bind fun v28 =>
 (kQ [(vw 0), (vi 0), (vb false)] 3 24 v28 v28 H).bind fun r29 =>
 g6 [(0, 1), (1, 1), (2, 1)] [(.slice none 0 0), (vi 0), (.slice none 0 0)] [(0, r29.1), (1, (vi 1))] fun v30 =>
 aV (Value.cells v30).toList r29.2 fun v31 H32 =>
 xy v28 (.pointer none) v31 H32) = some r) : FF so [x0] H = some r :=
 fo (t := ac8 x0 H) Tryz.func164 (by kernel_rfl) (Eq.trans (pt rfl 2 Tm (by kernel_rfl)) h)
theorem HA (x0 : Value) (H : AH) {r : Value × AH} (h : (
 (FF pG [x0] H).bind fun r0 =>
 (FF sg [] r0.2).bind fun r1 =>
 g6 [(0, 1), (1, 1), (2, 1)] [(.pointer none), (.pointer none), (vi 0)] [(0, r0.1), (1, r1.1), (2, x0)] fun v2 =>
 aV (Value.cells v2).toList r1.2 fun v3 H4 =>
 some (v3, H4)) = some r) : FF pE [x0] H = some r :=
 fo Tryz.func165 (by kernel_rfl) h
theorem GV (x0 : Value) (H : AH) {r : Value × AH} (h : (
 (gL [x0, (vi 0)]).bind fun v0 =>
 (iJ [v0, (vi 40)]).bind fun v1 =>
 some (v1, H)) = some r) : FF pD [x0] H = some r :=
 fo Tryz.func174 (by kernel_rfl) h
theorem qZ (x0 x1 x2 x3 : Value) (H : AH) {r : Value × AH} (h : (
 aV (Value.cells x3).toList H fun v0 H1 =>
 ad [.n, .f 12] x0 fun v2 =>
 (aq v2 H1).bind fun v3 =>
 ad [.n, .f 11] x0 fun v4 =>
 (aq v4 H1).bind fun v5 =>
 (ci .int (vi 0) v5 x2 false H1).bind fun v6 =>
 (aD 4 v0 H1).bind fun v7 =>
 (FF lD [v7] H1).bind fun r8 =>
 bD (aq v2 r8.2) (aq v2 H1) <|
 bD (aq v4 r8.2) (aq v4 H1) <|
 bD (ci .int (vi 0) v5 x2 false r8.2) (ci .int (vi 0) v5 x2 false H1) <|
 g6 [(0, 1), (1, 1), (2, 1), (3, 4)] [(vi 0), (vi 0), (vi 0), (vi 0), (.slice none 0 0), (vi 0), (vw 0)] [(0, x1), (1, x2), (2, v6), (3, r8.1)] fun v9 =>
 vJ 1 7 [(vi 0), (vi 0), (vi 0), (vi 0), (.slice none 0 0), (vi 0), (vw 0)] [(0, v9)] r8.2 fun v10 H11 =>
 (dq 7 72 v3 v10 H11).bind fun r12 =>
 st 1 [.n, .f 12] x0 r12.1 r12.2 fun H13 =>
 some (Value.tuple #[], H13)) = some r) : FF gG [x0, x1, x2, x3] H = some r :=
 fo Tryz.func175 (by kernel_rfl) h
theorem rh (x0 x1 x2 x3 : Value) (H : AH) {r : Value × AH} (h : (
 ad [.n, .f 0] x0 fun v0 =>
 (aq v0 H).bind fun v1 =>
 (FF iw [x2, x3] H).bind fun r2 =>
 bD (aq v0 r2.2) (aq v0 H) <|
 (FF cJ [v1, x1, r2.1] r2.2).bind fun r3 =>
 (ai .other .eql r3.1 (vw 0)).bind fun v4 =>
 ax v4
 (some (Value.tuple #[(vi 0), (vi 0), (vb false)], r3.2))
 ((ai .other .shr r3.1 (vw 32)).bind fun v5 =>
 (bJ (some .i64) v5).bind fun v6 =>
 (ai .other .sub v6 (vi 1)).bind fun v7 =>
 (ai .other .and r3.1 (vw 4294967295)).bind fun v8 =>
 (bJ (some .i64) v8).bind fun v9 =>
 some (Value.tuple #[v7, v9, (vb true)], r3.2))) = some r) : FF gK [x0, x1, x2, x3] H = some r :=
 fo Tryz.func176 (by kernel_rfl) h
theorem pV (x0 : Value) (H : AH) {r : Value × AH} (h : (
 ld [.n, .f 2] x0 H fun v0 =>
 some (v0, H)) = some r) : FF fV [x0] H = some r :=
 fo Tryz.func177 (by kernel_rfl) h
theorem yb (x0 x1 x2 x3 x4 : Value) (H : AH) {r : Value × AH} (h : (
 aV (Value.cells x2).toList H fun v0 H1 =>
 (aD 3 v0 H1).bind fun v2 =>
 (FF dV [x0, v2] H1).bind fun r3 =>
 (ai .other .neq r3.1 x3).bind fun v4 =>
 ax v4
 ((aD 3 v0 r3.2).bind fun v5 =>
 (FF cK [x0, x1, (vi 4), v5] r3.2).bind fun r6 =>
 some ((vb false), r6.2))
 ((aD 3 v0 r3.2).bind fun v7 =>
 (FF im [x0, x1, v7, x4] r3.2).bind fun r8 =>
 some ((vb true), r8.2))) = some r) : FF dW [x0, x1, x2, x3, x4] H = some r :=
 fo Tryz.func183 (by kernel_rfl) h
theorem De (x0 : Value) (H : AH) {r : Value × AH} (h : (
 (FF ix [x0] H).bind fun r0 =>
 (ot .not r0.1).bind fun v1 =>
 ax v1
 (some ((vi (-1)), r0.2))
 ((ai .other .shr x0 (vw 61)).bind fun v2 =>
 (bJ (some .i64) v2).bind fun v3 =>
 some (v3, r0.2))) = some r) : FF dC [x0] H = some r :=
 fo Tryz.func184 (by kernel_rfl) h
theorem HL (x0 x1 : Value) (H : AH) {r : Value × AH} (h : (
 (ai .other .gtr x0 (vw 2305843009213693951)).bind fun v0 =>
 (gV v0 false x1).bind fun v1 =>
 (gB v0 false (ai .other .lss v1 (vi 0))).bind fun v2 =>
 (aQ v0 (vb true) v2).bind fun v3 =>
 (gV v3 false x1).bind fun v4 =>
 (gB v3 false (ai .other .geq v4 (vi 3))).bind fun v5 =>
 (aQ v3 (vb true) v5).bind fun v6 =>
 ax v6
 (some (Value.tuple #[(vw 0), (vb false)], H))
 ((bJ (some .u64) x1).bind fun v7 =>
 (ai .other .shl v7 (vw 61)).bind fun v8 =>
 (ai .other .or v8 x0).bind fun v9 =>
 some (Value.tuple #[v9, (vb true)], H))) = some r) : FF jC [x0, x1] H = some r :=
 fo Tryz.func185 (by kernel_rfl) h
theorem Dc (x0 : Value) (H : AH) {r : Value × AH} (h : (
 (FF ix [x0] H).bind fun r0 =>
 (ot .not r0.1).bind fun v1 =>
 ax v1
 (some ((vw 0), r0.2))
 ((ai .other .and x0 (vw 2305843009213693951)).bind fun v2 =>
 some (v2, r0.2))) = some r) : FF cF [x0] H = some r :=
 fo Tryz.func186 (by kernel_rfl) h
theorem JW (x0 x1 : Value) (H : AH) {r : Value × AH} (h : (
 (ai .other .gtr x0 (vw 2305843009213693951)).bind fun v0 =>
 (gV v0 false x1).bind fun v1 =>
 (gB v0 false (ai .other .lss v1 (vi 0))).bind fun v2 =>
 (aQ v0 (vb true) v2).bind fun v3 =>
 (gV v3 false x1).bind fun v4 =>
 (gB v3 false (ai .other .gtr v4 (vi 2))).bind fun v5 =>
 (aQ v3 (vb true) v5).bind fun v6 =>
 ax v6
 (some (Value.tuple #[(vw 0), (vb false)], H))
 ((bJ (some .u64) x1).bind fun v7 =>
 (ai .other .mul v7 (vw 2305843009213693952)).bind fun v8 =>
 (ai .other .add v8 x0).bind fun v9 =>
 some (Value.tuple #[v9, (vb true)], H))) = some r) : FF kK [x0, x1] H = some r :=
 fo Tryz.func187 (by kernel_rfl) h
theorem Cn (x0 : Value) (H : AH) {r : Value × AH} (h : (
 aV [(vi 0), (vi 0), (vi 0)] H fun v0 H1 =>
 g6 [(0, 1), (1, 1), (2, 1)] [(vi 0), (vi 0), (vi 0)] [(0, (vi 8)), (1, x0)] fun v2 =>
 (dn 3 v0 v2 H1).bind fun H3 =>
 (aD 3 v0 H3).bind fun v4 => some (v4, H3)) = some r) : FF jm [x0] H = some r :=
 fo Tryz.func190 (by kernel_rfl) h
theorem HJ (x0 : Value) (H : AH) {r : Value × AH} (h : (
 (FF nO [x0] H).bind fun r0 =>
 C0 r0.2 fun v1 H2 =>
 g6 [(0, 1), (1, 1), (2, 192), (194, 3), (197, 1)] [(vw 0), (vi 0), (.slice none 0 0), (.slice none 0 0), (.slice none 0 0), (.slice none 0 0), (.slice none 0 0), (.slice none 0 0), (.slice none 0 0), (.slice none 0 0), (.slice none 0 0), (.slice none 0 0), (.slice none 0 0), (.slice none 0 0), (.slice none 0 0), (.slice none 0 0), (.slice none 0 0), (.slice none 0 0), (.slice none 0 0), (.slice none 0 0), (.slice none 0 0), (.slice none 0 0), (.slice none 0 0), (.slice none 0 0), (.slice none 0 0), (.slice none 0 0), (.slice none 0 0), (.slice none 0 0), (.slice none 0 0), (.slice none 0 0), (.slice none 0 0), (.slice none 0 0), (.slice none 0 0), (.slice none 0 0), (.slice none 0 0), (.slice none 0 0), (.slice none 0 0), (.slice none 0 0), (.slice none 0 0), (.slice none 0 0), (.slice none 0 0), (.slice none 0 0), (.slice none 0 0), (.slice none 0 0), (.slice none 0 0), (.slice none 0 0), (.slice none 0 0), (.slice none 0 0), (.slice none 0 0), (.slice none 0 0), (.slice none 0 0), (.slice none 0 0), (.slice none 0 0), (.slice none 0 0), (.slice none 0 0), (.slice none 0 0), (.slice none 0 0), (.slice none 0 0), (.slice none 0 0), (.slice none 0 0), (.slice none 0 0), (.slice none 0 0), (.slice none 0 0), (.slice none 0 0), (.slice none 0 0), (.slice none 0 0), (.slice none 0 0), (.slice none 0 0), (.slice none 0 0), (.slice none 0 0), (.slice none 0 0), (.slice none 0 0), (.slice none 0 0), (.slice none 0 0), (.slice none 0 0), (.slice none 0 0), (.slice none 0 0), (.slice none 0 0), (.slice none 0 0), (.slice none 0 0), (.slice none 0 0), (.slice none 0 0), (.slice none 0 0), (.slice none 0 0), (.slice none 0 0), (.slice none 0 0), (.slice none 0 0), (.slice none 0 0), (.slice none 0 0), (.slice none 0 0), (.slice none 0 0), (.slice none 0 0), (.slice none 0 0), (.slice none 0 0), (.slice none 0 0), (.slice none 0 0), (.slice none 0 0), (.slice none 0 0), (.slice none 0 0), (.slice none 0 0), (.slice none 0 0), (.slice none 0 0), (.slice none 0 0), (.slice none 0 0), (.slice none 0 0), (.slice none 0 0), (.slice none 0 0), (.slice none 0 0), (.slice none 0 0), (.slice none 0 0), (.slice none 0 0), (.slice none 0 0), (.slice none 0 0), (.slice none 0 0), (.slice none 0 0), (.slice none 0 0), (.slice none 0 0), (.slice none 0 0), (.slice none 0 0), (.slice none 0 0), (.slice none 0 0), (.slice none 0 0), (.slice none 0 0), (.slice none 0 0), (.slice none 0 0), (.slice none 0 0), (.slice none 0 0), (.slice none 0 0), (.slice none 0 0), (.slice none 0 0), (.slice none 0 0), (.slice none 0 0), (.slice none 0 0), (.slice none 0 0), (.slice none 0 0), (.slice none 0 0), (.slice none 0 0), (.slice none 0 0), (.slice none 0 0), (.slice none 0 0), (.slice none 0 0), (.slice none 0 0), (.slice none 0 0), (.slice none 0 0), (.slice none 0 0), (.slice none 0 0), (.slice none 0 0), (.slice none 0 0), (.slice none 0 0), (.slice none 0 0), (.slice none 0 0), (.slice none 0 0), (.slice none 0 0), (.slice none 0 0), (.slice none 0 0), (.slice none 0 0), (.slice none 0 0), (.slice none 0 0), (.slice none 0 0), (.slice none 0 0), (.slice none 0 0), (.slice none 0 0), (.slice none 0 0), (.slice none 0 0), (.slice none 0 0), (.slice none 0 0), (.slice none 0 0), (.slice none 0 0), (.slice none 0 0), (.slice none 0 0), (.slice none 0 0), (.slice none 0 0), (.slice none 0 0), (.slice none 0 0), (.slice none 0 0), (.slice none 0 0), (.slice none 0 0), (.slice none 0 0), (.slice none 0 0), (.slice none 0 0), (.slice none 0 0), (.slice none 0 0), (.slice none 0 0), (.slice none 0 0), (.slice none 0 0), (.slice none 0 0), (.slice none 0 0), (.slice none 0 0), (.slice none 0 0), (.slice none 0 0), (.slice none 0 0), (.slice none 0 0), (.slice none 0 0), (.slice none 0 0), (vw 0), (vw 0), (vw 0), (.map none)] [(1, r0.1), (4, v1)] fun v3 =>
 aV (Value.cells v3).toList H2 fun v4 H5 =>
 some (v4, H5)) = some r) : FF pG [x0] H = some r :=
 fo Tryz.func195 (by kernel_rfl) h
theorem Jg (H : AH) {r : Value × AH} (h : (
 C0 H fun v0 H1 =>
 g6 [(0, 1), (1, 1)] [(.slice none 0 0), (.map none)] [(1, v0)] fun v2 =>
 aV (Value.cells v2).toList H1 fun v3 H4 =>
 some (v3, H4)) = some r) : FF sg [] H = some r :=
 fo Tryz.func196 (by kernel_rfl) h
theorem xY (x0 x1 x2 : Value) (H : AH) {r : Value × AH} (h : (
 aV (Value.cells x2).toList H fun v0 H1 =>
 (aD 3 v0 H1).bind fun v2 =>
 (FF cK [x0, x1, (vi 1), v2] H1).bind fun r3 =>
 (aD 3 v0 r3.2).bind fun v4 =>
 (FF dV [x0, v4] r3.2).bind fun r5 =>
 some (r5.1, r5.2)) = some r) : FF cJ [x0, x1, x2] H = some r :=
 fo Tryz.func211 (by kernel_rfl) h
theorem ya (x0 x1 x2 : Value) (H : AH) {r : Value × AH} (h : (
 aV (Value.cells x2).toList H fun v0 H1 =>
 (aD 3 v0 H1).bind fun v2 =>
 (FF cK [x0, x1, (vi 5), v2] H1).bind fun r3 =>
 some (Value.tuple #[], r3.2)) = some r) : FF kJ [x0, x1, x2] H = some r :=
 fo Tryz.func212 (by kernel_rfl) h
theorem Dd (x0 : Value) (H : AH) {r : Value × AH} (h : (
 (ai .other .shr x0 (vw 61)).bind fun v0 =>
 (ai .other .lss v0 (vw 3)).bind fun v1 =>
 some (v1, H)) = some r) : FF ix [x0] H = some r :=
 fo Tryz.func217 (by kernel_rfl) h
theorem oL (x0 x1 x2 : Value) (H : AH) {r : Value × AH} (h : (
 ad [.n, .f 0] x0 fun v0 =>
 (aq v0 H).bind fun v1 =>
 (FF jm [x2] H).bind fun r2 =>
 bD (aq v0 r2.2) (aq v0 H) <|
 (FF cq [v1, x1, r2.1, (vw 0)] r2.2).bind fun r3 =>
 some (Value.tuple #[], r3.2)) = some r) : FF fj [x0, x1, x2] H = some r :=
 fo Tryz.func221 (by kernel_rfl) h
theorem Db (x0 : Value) (H : AH) {r : Value × AH} (h : (
 (gL [x0, (vi 0)]).bind fun v0 =>
 (iJ [v0, (vi 40)]).bind fun v1 =>
 some (v1, H)) = some r) : FF nO [x0] H = some r :=
 fo Tryz.func224 (by kernel_rfl) h
theorem HK (x0 : Value) (H : AH) {r : Value × AH} (h : (
 (FF ix [x0] H).bind fun r0 =>
 (ot .not r0.1).bind fun v1 =>
 (gV v1 false x0).bind fun v2 =>
 (gE v1 false r0.2 (FF dC [v2] r0.2)).bind fun r3 =>
 (gB v1 false (ai .other .eql r3.1 (vi 2))).bind fun v4 =>
 (aQ v1 (vb true) v4).bind fun v5 =>
 (gV v5 false x0).bind fun v6 =>
 (gE v5 false r3.2 (FF cF [v6] r3.2)).bind fun r7 =>
 (gB v5 false (ai .other .eql r7.1 (vw 2305843009213693951))).bind fun v8 =>
 (aQ v5 (vb true) v8).bind fun v9 =>
 ax v9
 (some (Value.tuple #[(vw 0), (vb false)], r7.2))
 ((FF cF [x0] r7.2).bind fun r10 =>
 (ai .other .add r10.1 (vw 1)).bind fun v11 =>
 (FF jC [v11, (vi 1)] r10.2).bind fun r12 =>
 (aj r12.1 0).bind fun v13 =>
 (aj r12.1 1).bind fun v14 =>
 some (Value.tuple #[v13, v14], r12.2))) = some r) : FF lE [x0] H = some r :=
 fo Tryz.func288 (by kernel_rfl) h
theorem CA (n : Int) : IntKind.wrap .u64 n = n % 18446744073709551616 := by simp [IntKind.wrap, IntKind.bits, IntKind.signed]
theorem ks {n : Int} (h0 : 0 ≤ n) (h1 : n < 18446744073709551616) : IntKind.wrap .u64 n = n := by rw [CA]; omega
theorem ng {n : Int} (h0 : -9223372036854775808 ≤ n) (h1 : n < 9223372036854775808) : IntKind.wrap .i64 n = n := by
 simp [IntKind.wrap, IntKind.bits, IntKind.signed]
 split <;> omega
theorem qG (a : Nat) (h : a < 18446744073709551616) : (BitVec.ofInt 64 (a : Int)).toNat = a := by
 rw [BitVec.toNat_ofInt]
 omega
theorem K7 {a b : Nat} (ha : a < 18446744073709551616) (hb : b < 18446744073709551616) : Go.bits .and .u64 (a : Int) (b : Int) = ((a &&& b : Nat) : Int) := by
 show IntKind.wrap .u64 (((BitVec.ofInt 64 (a : Int) &&& BitVec.ofInt 64 (b : Int)).toNat : Nat) : Int) = _
 rw [BitVec.toNat_and, qG a ha, qG b hb]
 have : a &&& b ≤ a := Nat.and_le_left
 exact ks (by omega) (by omega)
theorem akT {a b : Nat} (ha : a < 18446744073709551616) (hb : b < 18446744073709551616) : a ||| b < 18446744073709551616 := Nat.or_lt_two_pow (n := 64) ha hb
theorem Sy {a b : Nat} (ha : a < 18446744073709551616) (hb : b < 18446744073709551616) : Go.bits .or .u64 (a : Int) (b : Int) = ((a ||| b : Nat) : Int) := by
 show IntKind.wrap .u64 (((BitVec.ofInt 64 (a : Int) ||| BitVec.ofInt 64 (b : Int)).toNat : Nat) : Int) = _
 rw [BitVec.toNat_or, qG a ha, qG b hb]
 have := akT ha hb
 exact ks (by omega) (by omega)
section
variable {cl : TCls}
theorem aeF {a b : Nat} (ha : a < 18446744073709551616) (hb : b < 18446744073709551616) : ai cl .and (vu a) (vu b) = some (vu (a &&& b)) := by simp only [ai, kY, if_true, K7 ha hb]
theorem Wy {a b : Nat} (ha : a < 18446744073709551616) (hb : b < 18446744073709551616) : ai cl .or (vu a) (vu b) = some (vu (a ||| b)) := by simp only [ai, kY, if_true, Sy ha hb]
theorem dt {a b : Nat} (h : a + b < 18446744073709551616) : ai cl .add (vu a) (vu b) = some (vu (a + b)) := by
 simp only [ai, kY, if_true]
 rw [ks (by omega) (by omega)]
 simp
theorem Sx {a b : Nat} : ai cl .mul (vu a) (vu b) = some (vu (a * b % 18446744073709551616)) := by
 simp only [ai, kY, if_true]
 rw [CA]
 simp
theorem Dm {a b : Nat} (h : b ≤ a) (ha : a < 18446744073709551616) : ai cl .sub (vu a) (vu b) = some (vu (a - b)) := by
 simp only [ai, kY, if_true]
 rw [ks (by omega) (by omega)]
 show some (Value.int .u64 ((a : Int) - (b : Int))) = some (Value.int .u64 ((a - b : Nat) : Int))
 rw [Int.ofNat_sub h]
theorem Dk {a b : Nat} (h : b ≠ 0) (ha : a < 18446744073709551616) : ai cl .quo (vu a) (vu b) = some (vu (a / b)) := by
 simp only [ai, kY, if_true]
 rw [if_neg (by omega)]
 have h1 : (a : Int).tdiv (b : Int) = ((a / b : Nat) : Int) := (Int.ofNat_tdiv a b).symm
 have h2 : a / b ≤ a := Nat.div_le_self a b
 rw [h1]
 generalize a / b = q at h2
 rw [ks (by omega) (by omega)]
theorem iP {a b : Nat} (h : b ≠ 0) : ai cl .rem (vu a) (vu b) = some (vu (a % b)) := by
 simp only [ai, kY, if_true]
 rw [if_neg (by omega)]
 have h1 : (a : Int).tmod (b : Int) = ((a % b : Nat) : Int) := (Int.ofNat_tmod a b).symm
 rw [h1]
theorem u3 {a : Nat} {k : IntKind} {n : Nat} (hn : n ≤ 64) : ai cl .shr (vu a) (.int k (n : Int)) = some (vu (a / 2 ^ n)) := by
 simp only [ai, kR]
 rw [if_neg (by omega)]
 simp only [IntKind.bits, Int.toNat_natCast, Nat.min_eq_left hn]
 have : (a : Int).fdiv (2 ^ n) = ((a / 2 ^ n : Nat) : Int) := by
  rw [Int.fdiv_eq_ediv_of_nonneg _ (by exact Int.le_of_lt (Int.pow_pos (by omega)))]
  simp
 rw [this]
theorem Dl {a : Nat} {k : IntKind} {n : Nat} (hn : n ≤ 64) : ai cl .shl (vu a) (.int k (n : Int)) = some (vu (a * 2 ^ n % 18446744073709551616)) := by
 simp only [ai, kR]
 rw [if_neg (by omega)]
 simp only [IntKind.bits, Int.toNat_natCast, Nat.min_eq_left hn]
 rw [CA]
 simp
theorem aC {a b : Int} (h0 : -9223372036854775808 ≤ a + b) (h1 : a + b < 9223372036854775808) : ai cl .add (vi a) (vi b) = some (vi (a + b)) := by simp only [ai, kY, if_true, ng h0 h1]
theorem ba {a b : Int} (h0 : -9223372036854775808 ≤ a - b) (h1 : a - b < 9223372036854775808) : ai cl .sub (vi a) (vi b) = some (vi (a - b)) := by simp only [ai, kY, if_true, ng h0 h1]
theorem qe {k : IntKind} {a b : Int} : ai cl .lss (.int k a) (.int k b) = some (vb (decide (a < b))) ∧ ai cl .leq (.int k a) (.int k b) = some (vb (decide (a ≤ b))) ∧ ai cl .gtr (.int k a) (.int k b) = some (vb (decide (b < a))) ∧
 ai cl .geq (.int k a) (.int k b) = some (vb (decide (b ≤ a))) ∧ ai cl .eql (.int k a) (.int k b) = some (vb (a == b)) ∧ ai cl .neq (.int k a) (.int k b) = some (vb (a != b)) := by
 simp [ai, kY]
theorem qf {k : IntKind} {a b : Int} : ai cl .lss (.int k a) (.int k b) = some (vb (decide (a < b))) := qe.1
theorem O1 {k : IntKind} {a b : Int} : ai cl .leq (.int k a) (.int k b) = some (vb (decide (a ≤ b))) := qe.2.1
theorem EV {k : IntKind} {a b : Int} : ai cl .gtr (.int k a) (.int k b) = some (vb (decide (b < a))) := qe.2.2.1
theorem yH {k : IntKind} {a b : Int} : ai cl .geq (.int k a) (.int k b) = some (vb (decide (b ≤ a))) := qe.2.2.2.1
theorem dJ {k : IntKind} {a b : Int} : ai cl .eql (.int k a) (.int k b) = some (vb (a == b)) := qe.2.2.2.2.1
theorem qg {k : IntKind} {a b : Int} : ai cl .neq (.int k a) (.int k b) = some (vb (a != b)) := qe.2.2.2.2.2
theorem wB {a : Bool} : ot .not (vb a) = some (vb (!a)) := rfl
theorem jS {a b : Int} : gL [vi a, vi b] = some (vi (max a b)) := by
 simp only [gL]
 congr 2
 split <;> omega
theorem jT {a b : Int} : iJ [vi a, vi b] = some (vi (min a b)) := by
 simp only [iJ]
 congr 2
 split <;> omega
end
abbrev Hp := Nat → Option AObj
def SP : Type := Hp → Prop
theorem SP.ext {P Q : SP} (h : ∀ x, P x ↔ Q x) : P = Q := funext fun x => propext (h x)
def sep (P Q : SP) : SP := fun h => ∃ a b : Hp, (∀ i, a i = none ∨ b i = none) ∧ (h = fun i => (a i).or (b i)) ∧ P a ∧ Q b
instance : Mul SP := ⟨sep⟩
def emp : SP := fun h => h = fun _ => none
theorem aa2 {α : Type} {a b : Option α} (h : a = none ∨ b = none) : a.or b = b.or a := by
 rcases h with rfl | rfl <;> simp
theorem uM (P Q : SP) : P * Q = Q * P := by
 have one : ∀ (P Q : SP) h, sep P Q h → sep Q P h := by
  rintro P Q h ⟨a, b, hd, rfl, ha, hb⟩
  exact ⟨b, a, fun i => (hd i).symm, funext fun i => aa2 (hd i), hb, ha⟩
 exact SP.ext fun h => ⟨one P Q h, one Q P h⟩
theorem ar (P Q R : SP) : P * Q * R = P * (Q * R) := by
 apply SP.ext
 intro h
 constructor
 ·rintro ⟨ab, c, hd, rfl, ⟨a, b, hd2, rfl, ha, hb⟩, hc⟩
  refine ⟨a, fun i => (b i).or (c i), fun i => ?_, funext fun i => ?_, ha, b, c, fun i => ?_, rfl, hb, hc⟩
  ·have h1 := hd i
   have h2 := hd2 i
   cases ha' : a i <;> cases hb' : b i <;> cases hc' : c i <;> simp_all
  ·exact Option.or_assoc
  ·have h1 := hd i
   have h2 := hd2 i
   cases ha' : a i <;> cases hb' : b i <;> cases hc' : c i <;> simp_all
 ·rintro ⟨a, bc, hd, rfl, ha, b, c, hd2, rfl, hb, hc⟩
  refine ⟨fun i => (a i).or (b i), c, fun i => ?_, funext fun i => ?_, ⟨a, b, fun i => ?_, rfl, ha, hb⟩, hc⟩
  ·have h1 := hd i
   have h2 := hd2 i
   cases ha' : a i <;> cases hb' : b i <;> cases hc' : c i <;> simp_all
  ·exact Option.or_assoc.symm
  ·have h1 := hd i
   have h2 := hd2 i
   cases ha' : a i <;> cases hb' : b i <;> cases hc' : c i <;> simp_all
theorem cX (P : SP) : P * emp = P := by
 apply SP.ext
 intro h
 constructor
 ·rintro ⟨a, b, hd, rfl, ha, hb⟩
  have hb : b = fun _ => none := hb
  subst hb
  simpa using ha
 ·intro h'
  exact ⟨h, fun _ => none, fun i => .inr rfl, by simp, h', rfl⟩
theorem jg (P : SP) : emp * P = P := by rw [uM, cX]
instance : Std.Associative (α := SP) (· * ·) := ⟨ar⟩
instance : Std.Commutative (α := SP) (· * ·) := ⟨uM⟩
theorem bA (P Q R : SP) : P * (Q * R) = Q * (P * R) := by rw [← ar, uM P Q, ar]
def blk (b : Nat) (o : AObj) : SP := fun h => h = fun i => if i = b then some o else none
def ex {α : Type} (P : α → SP) : SP := fun h => ∃ x, P x h
def pu (p : Prop) : SP := fun h => p ∧ h = fun _ => none
def ae (P : SP) (H : AH) : Prop := ∃ h : Hp, P h ∧ ∀ i o, h i = some o → H.get i = some o
theorem ae.left {P Q : SP} {H : AH} (h : ae (P * Q) H) : ae P H := by
 obtain ⟨x, ⟨a, b, hd, rfl, ha, hb⟩, hx⟩ := h
 exact ⟨a, ha, fun i o hi => hx i o (by simp [hi])⟩
theorem ae.right {P Q : SP} {H : AH} (h : ae (P * Q) H) : ae Q H := by rw [uM] at h; exact h.left
theorem ae.get {b : Nat} {o : AObj} {H : AH} (h : ae (blk b o) H) : H.get b = some o := by
 obtain ⟨x, hx, hg⟩ := h
 have hx : x = _ := hx
 exact hg b o (by rw [hx]; simp)
theorem ae.ex {α : Type} {F : α → SP} {R : SP} {H : AH} : ae (ex F * R) H ↔ ∃ x, ae (F x * R) H := by
 constructor
 ·rintro ⟨h, ⟨a, b, hd, rfl, ⟨x, ha⟩, hb⟩, hx⟩
  exact ⟨x, _, ⟨a, b, hd, rfl, ha, hb⟩, hx⟩
 ·rintro ⟨x, h, ⟨a, b, hd, rfl, ha, hb⟩, hx⟩
  exact ⟨_, ⟨a, b, hd, rfl, ⟨x, ha⟩, hb⟩, hx⟩
theorem ae.pu {p : Prop} {R : SP} {H : AH} : ae (pu p * R) H ↔ p ∧ ae R H := by
 constructor
 ·rintro ⟨h, ⟨a, b, hd, rfl, ⟨hp, ha⟩, hb⟩, hx⟩
  subst ha
  exact ⟨hp, b, hb, fun i o hi => hx i o (by simp [hi])⟩
 ·rintro ⟨hp, h, hr, hx⟩
  exact ⟨h, ⟨fun _ => none, h, fun i => .inl rfl, by simp, ⟨hp, rfl⟩, hr⟩, hx⟩
theorem ae.emp (H : AH) : ae emp H := ⟨fun _ => none, rfl, fun i o h => by cases h⟩
theorem ae.lt {b : Nat} {o : AObj} {R : SP} {H : AH} (h : ae (blk b o * R) H) : b < H.size := AH.lt_of_get h.left.get
theorem ae.set {b : Nat} {o : AObj} {R : SP} {H : AH} (o' : AObj) (h : ae (blk b o * R) H) : ae (blk b o' * R) (H.set b o') := by
 have hb := h.lt
 obtain ⟨x, ⟨a, r, hd, rfl, ha, hr⟩, hx⟩ := h
 have ha : a = _ := ha
 subst ha
 refine ⟨_, ⟨_, r, fun i => ?_, rfl, rfl, hr⟩, fun i o2 hi => ?_⟩
 ·have := hd i
  simp only at this ⊢
  by_cases hi : i = b
  ·rw [if_pos hi] at this ⊢
   rcases this with h | h
   ·cases h
   ·exact .inr h
  ·rw [if_neg hi]; exact .inl rfl
 ·by_cases hib : i = b
  ·subst hib
   simp only [if_true, Option.some_or, Option.some.injEq] at hi
   subst hi
   exact AH.get_set_eq hb
  ·simp only [if_neg hib, Option.none_or] at hi
   rw [AH.get_set_ne hib]
   exact hx i o2 (by simp only [if_neg hib, Option.none_or]; exact hi)
theorem ae.push {R : SP} {H : AH} (o : AObj) (h : ae R H) : ae (blk H.size o * R) (H.push o) := by
 obtain ⟨r, hr, hx⟩ := h
 refine ⟨_, ⟨_, r, fun i => ?_, rfl, rfl, hr⟩, fun i o2 hi => ?_⟩
 ·by_cases hi : i = H.size
  ·subst hi
   right
   cases hr' : r H.size with
   | none => rfl
   | some o' => have := AH.lt_of_get (hx _ _ hr'); omega
  ·rw [if_neg hi]; exact .inl rfl
 ·by_cases hib : i = H.size
  ·subst hib
   simp only [if_true, Option.some_or, Option.some.injEq] at hi
   subst hi
   exact AH.get_push_new _ _
  ·simp only [if_neg hib, Option.none_or] at hi
   have := hx i o2 hi
   rw [AH.get_push_old (AH.lt_of_get this)]
   exact this
theorem ae.dead {b : Nat} {o : AObj} {R : SP} {H : AH} (h : ae (blk b o * R) H) : ae R (H.set b .dead) := (h.set .dead).right
class Fr (P A : SP) (R : outParam SP) : Prop where
 eq : P = A * R
instance (priority := high) Fr.refl (A : SP) : Fr A A emp := ⟨(cX A).symm⟩
instance (priority := high) Fr.emp (P : SP) : Fr P emp P := ⟨(jg P).symm⟩
instance Fr.left (P Q A R : SP) [h : Fr P A R] : Fr (P * Q) A (R * Q) := ⟨by rw [h.eq, ar]⟩
instance Fr.right (P Q A R : SP) [h : Fr Q A R] : Fr (P * Q) A (P * R) := ⟨by rw [h.eq, bA]⟩
instance (priority := high) Fr.both (P A B R1 R2 : SP) [h1 : Fr P A R1] [h2 : Fr R1 B R2] : Fr P (A * B) R2 := ⟨by rw [h1.eq, h2.eq, ar]⟩
class Hs (P : SP) (b : Nat) (o : outParam AObj) : Prop where
 get : ∀ {H : AH}, ae P H → H.get b = some o
instance Hs.one (b : Nat) (o : AObj) : Hs (blk b o) b o := ⟨ae.get⟩
instance Hs.left (P Q : SP) (b : Nat) (o : AObj) [h : Hs P b o] : Hs (P * Q) b o := ⟨fun k => h.get k.left⟩
instance Hs.right (P Q : SP) (b : Nat) (o : AObj) [h : Hs Q b o] : Hs (P * Q) b o := ⟨fun k => h.get k.right⟩
class Up (P : SP) (b : Nat) (o' : AObj) (P' : outParam SP) : Prop where
 up : ∃ o R, P = blk b o * R ∧ P' = blk b o' * R
instance Up.one (b : Nat) (o o' : AObj) : Up (blk b o) b o' (blk b o') := ⟨o, emp, (cX _).symm, (cX _).symm⟩
instance Up.left (P Q : SP) (b : Nat) (o' : AObj) (P' : SP) [h : Up P b o' P'] : Up (P * Q) b o' (P' * Q) := ⟨by
 obtain ⟨o, R, e1, e2⟩ := h.up
 exact ⟨o, R * Q, by rw [e1, ar], by rw [e2, ar]⟩⟩
instance Up.right (P Q : SP) (b : Nat) (o' : AObj) (Q' : SP) [h : Up Q b o' Q'] : Up (P * Q) b o' (P * Q') := ⟨by
 obtain ⟨o, R, e1, e2⟩ := h.up
 exact ⟨o, P * R, by rw [e1, bA], by rw [e2, bA]⟩⟩
theorem Up.set {P P' : SP} {b : Nat} {o' : AObj} [h : Up P b o' P'] {H : AH} (k : ae P H) : ae P' (H.set b o') := by
 obtain ⟨o, R, rfl, rfl⟩ := h.up
 exact k.set o'
theorem ae.fr {P A R : SP} {H : AH} (h : ae P H) [f : Fr P A R] : ae (A * R) H := by rw [← f.eq]; exact h
theorem ae.to {P A R : SP} {H : AH} (h : ae P H) [f : Fr P A R] : ae A H := h.fr.left
def wp (x : OV) (Q : Value → AH → Prop) : Prop := ∃ v H, x = some (v, H) ∧ Q v H
abbrev vp (b : Nat) : Value := .pointer (some ⟨b, 0, none⟩)
abbrev oM (b o : Nat) : Value := .pointer (some ⟨b, o, none⟩)
abbrev vs (b n e : Nat) : Value := .slice (some ⟨b, 0, none⟩) n e
theorem ap {v : Value} {H : AH} {Q : Value → AH → Prop} (h : Q v H) : wp (some (v, H)) Q := ⟨v, H, rfl, h⟩
theorem wp.mono {x : OV} {Q Q' : Value → AH → Prop} (h : wp x Q) (k : ∀ v H, Q v H → Q' v H) : wp x Q' := let ⟨v, H, e, q⟩ := h; ⟨v, H, e, k v H q⟩
theorem aw {x y : OV} {Q : Value → AH → Prop} (h : ∀ r, x = some r → y = some r) (k : wp x Q) : wp y Q := let ⟨v, H, e, q⟩ := k; ⟨v, H, h _ e, q⟩
theorem ag {x y : OV} {Q : Value → AH → Prop} (h : y = x) (k : wp x Q) : wp y Q := by rw [h]; exact k
theorem aa {x : Option Value} {v : Value} {k : Value → OV} {Q : Value → AH → Prop} (e : x = some v) (h : wp (k v) Q) : wp (x.bind k) Q := by rw [e]; exact h
theorem bH {b : Bool} {x y : OV} {Q : Value → AH → Prop} (ht : b = true → wp x Q) (hf : b = false → wp y Q) : wp (ax (vb b) x y) Q := by
 cases b
 ·exact hf rfl
 ·exact ht rfl
theorem rO {x y : Option Value} {k : OV} {Q : Value → AH → Prop} (e : x = y) (h : wp k Q) : wp (bD x y k) Q := by rw [aiE e]; exact h
theorem aP {x : Option Value} {k : OV} {Q : Value → AH → Prop} (h : wp k Q) : wp (bD x x k) Q := rO rfl h
section
variable {P P' R : SP} {H : AH} {b o f n len e : Nat} {ro : Bool} {cs : List Value} {v x : Value} {Q : Value → AH → Prop}
theorem M6 (h : ae P H) [i : Hs P b (.cells ro cs)] (hv : cs[o]? = some v) : aq (oM b o) H = some v := by
 simp only [aq, sr, dr, Option.bind_some, i.get h]
 exact hv
theorem M7 (h : ae P H) [i : Hs P b (.cells ro cs)] (hn : o + n ≤ cs.length) : aD n (oM b o) H = some (.agg ((cs.drop o).take n).toArray) := by
 simp only [aD, sr, dr, Option.bind_some, i.get h]
 rw [if_pos hn]
theorem acZ (h : ae P H) [i : Hs P b (.cells false cs)] (hx : x.cells.size = n) (hn : o + n ≤ cs.length) (hc : x.cells.toList.all Value.oneCell' = true) :
 dn n (oM b o) x H = some (H.set b (.cells false (splice cs o x.cells.toList))) := by
 simp only [dn, sr, Option.bind_some, i.get h]
 rw [if_pos ⟨hx, hn, hc⟩]
theorem aO {k : Value → AH → OV} (h : ae P H) (hk : ∀ b H', ae (blk b (.cells false cs) * P) H' → wp (k (vp b) H') Q) : wp (aV cs H k) Q := hk _ _ (h.push _)
theorem bR {k : Value → AH → OV} (h : ae P H) (hk : ∀ b H', ae (blk b (.map [] 0) * P) H' → wp (k (.map (some b)) H') Q) : wp (C0 H k) Q := hk _ _ (h.push _)
theorem ak3 {k : Value → AH → OV} (h : ae P H) (hk : ∀ b H', ae (blk b (.cells false cs) * P) H' → wp (k (vs b len e) H') Q) : wp (akY len e cs H k) Q := hk _ _ (h.push _)
theorem EN {zero : List Value} {xs : List (Nat × Value)} {k : Value → AH → OV} (h : ae P H) (hf : cC (afV e) (List.replicate len zero).flatten xs = some cs) (hk : ∀ b H', ae (blk b (.cells false cs) * P) H' → wp (k (vs b len e) H') Q) :
 wp (vJ len e zero xs H k) Q := by
 unfold vJ
 rw [hf]
 exact ak3 h hk
theorem KF {ps : List (Nat × Nat)} {zero : List Value} {xs : List (Nat × Value)} {k : Value → OV} (hf : cC (fun i => ps[i]?) zero xs = some cs) (hk : wp (k (.agg cs.toArray)) Q) : wp (g6 ps zero xs k) Q := by
 unfold g6
 rw [hf]
 exact hk
theorem b6 {n : Nat} {a : Option Addr} {k : Value → OV} (hk : wp (k (vi n)) Q) : wp (dG (.slice a n e) k) Q := hk
theorem akC {R : Type} {b o f : Nat} {p : List Stp} {k : Value → Option R} : ad (.f f :: p) (oM b o) k = ad p (oM b (o + f)) k := rfl
theorem So {R : Type} {b o n e i : Nat} {c : Nat} {p : List Stp} {kk : IntKind} {k : Value → Option R} (h : i < n) : ad (.i e (.int kk (i : Int)) :: p) (.slice (some ⟨b, o, none⟩) n c) k = ad p (oM b (o + i * e)) k := by
 show (mY e (.slice (some ⟨b, o, none⟩) n c) (.int kk (i : Int))).bind _ = _
 simp only [mY]
 rw [if_pos (by omega)]
 simp
theorem akB {R : Type} {b o n e i : Nat} {p : List Stp} {kk : IntKind} {k : Value → Option R} (h : i < n) : ad (.a n e (.int kk (i : Int)) :: p) (oM b o) k = ad p (oM b (o + i * e)) k := by
 show (gX n e (oM b o) (.int kk (i : Int))).bind _ = _
 simp only [gX]
 rw [if_pos (by omega)]
 simp
def OX (p : List Stp) (x : Value) (b o : Nat) : Prop := ∀ {R : Type} (k : Value → Option R), ad p x k = k (oM b o)
theorem bZ : OX [] (oM b o) b o := fun _ => rfl
theorem fK {p : List Stp} {b' o' : Nat} (h : OX p (oM b o) b' o') : OX (.n :: p) (oM b o) b' o' := fun k => h k
theorem bW {p : List Stp} {b' o' : Nat} (h : OX p (oM b (o + f)) b' o') : OX (.f f :: p) (oM b o) b' o' := fun k => h k
theorem Pd {p : List Stp} {b' o' i c : Nat} {kk : IntKind} (hi : i < n) (h : OX p (oM b (o + i * e)) b' o') : OX (.i e (.int kk (i : Int)) :: p) (.slice (some ⟨b, o, none⟩) n c) b' o' := fun k => by rw [So hi]; exact h k
theorem ac : OX [.n, .f f] (vp b) b f := fun k => by
 show k (oM b (0 + f)) = _
 rw [Nat.zero_add]
theorem ah : OX [.f f] (vp b) b f := fun k => by
 show k (oM b (0 + f)) = _
 rw [Nat.zero_add]
class Wp (l : List Value) (o : Nat) (v : Value) (l' : outParam (List Value)) : Prop where
 eq : o < l.length ∧ l' = l.set o v
instance Wp.zero (a : Value) (l : List Value) (v : Value) : Wp (a :: l) 0 v (v :: l) := ⟨by simp⟩
instance Wp.succ (a : Value) (l : List Value) (o : Nat) (v : Value) (l' : List Value) [h : Wp l o v l'] : Wp (a :: l) (o + 1) v (a :: l') := ⟨by
 obtain ⟨h1, rfl⟩ := h.eq
 exact ⟨by simp; exact h1, by simp⟩⟩
class uZ (l : List Value) (o : Nat) (xs : List Value) (l' : outParam (List Value)) : Prop where
 eq : o + xs.length ≤ l.length ∧ l' = splice l o xs
instance uZ.here0 (l : List Value) : uZ l 0 [] l := ⟨by simp [splice]⟩
instance uZ.here (a x : Value) (l xs l' : List Value) [h : uZ l 0 xs l'] : uZ (a :: l) 0 (x :: xs) (x :: l') := ⟨by
 obtain ⟨h1, rfl⟩ := h.eq
 refine ⟨by simp at h1 ⊢; exact h1, by simp [splice]⟩⟩
instance uZ.on (a : Value) (l : List Value) (o : Nat) (x : Value) (xs l' : List Value) [h : uZ l o (x :: xs) l'] : uZ (a :: l) (o + 1) (x :: xs) (a :: l') := ⟨by
 obtain ⟨h1, rfl⟩ := h.eq
 refine ⟨by simp at h1 ⊢; omega, ?_⟩
 simp only [splice, List.take_succ_cons, List.cons_append, List.cons.injEq, true_and]
 congr 1
 rw [show o + 1 + (x :: xs).length = (o + (x :: xs).length) + 1 from by omega, List.drop_succ_cons]⟩
class CJ (l : List Value) (o n : Nat) (l' : outParam (List Value)) : Prop where
 eq : o + n ≤ l.length ∧ l' = (l.drop o).take n
instance CJ.nil (l : List Value) : CJ l 0 0 [] := ⟨by simp⟩
instance CJ.here (a : Value) (l : List Value) (n : Nat) (l' : List Value) [h : CJ l 0 n l'] : CJ (a :: l) 0 (n + 1) (a :: l') := ⟨by
 obtain ⟨h1, rfl⟩ := h.eq
 exact ⟨by simp at h1 ⊢; exact h1, by simp⟩⟩
instance CJ.on (a : Value) (l : List Value) (o n : Nat) (l' : List Value) [h : CJ l o (n + 1) l'] : CJ (a :: l) (o + 1) (n + 1) l' := ⟨by
 obtain ⟨h1, rfl⟩ := h.eq
 exact ⟨by simp at h1 ⊢; omega, by simp⟩⟩
class s0 (v : Value) (l : outParam (List Value)) : Prop where
 eq : v.cells.toList = l
instance s0.int (k : IntKind) (n : Int) : s0 (.int k n) [.int k n] := ⟨rfl⟩
instance s0.bool (b : Bool) : s0 (.bool b) [.bool b] := ⟨rfl⟩
instance s0.slice (a : Option Addr) (n c : Nat) : s0 (.slice a n c) [.slice a n c] := ⟨rfl⟩
instance s0.ptr (a : Option Addr) : s0 (.pointer a) [.pointer a] := ⟨rfl⟩
instance s0.func (f : Fn) (a b : Array Value) : s0 (.func f a b) [.func f a b] := ⟨rfl⟩
instance s0.nilFunc : s0 .nilFunc [.nilFunc] := ⟨rfl⟩
instance s0.map (m : Option Nat) : s0 (.map m) [.map m] := ⟨rfl⟩
instance s0.string (s : ByteArray) : s0 (.string s) [.string s] := ⟨rfl⟩
instance s0.agg (l : List Value) : s0 (.agg l.toArray) l := ⟨by simp [Value.cells]⟩
class Sh (ps : List (Nat × Nat)) (i : Nat) (o n : outParam Nat) : Prop where
 eq : ps[i]? = some (o, n)
instance Sh.zero (p : Nat × Nat) (ps : List (Nat × Nat)) : Sh (p :: ps) 0 p.1 p.2 := ⟨rfl⟩
instance Sh.succ (p : Nat × Nat) (ps : List (Nat × Nat)) (i o n : Nat) [h : Sh ps i o n] : Sh (p :: ps) (i + 1) o n := ⟨by simpa using h.eq⟩
class KT (l : List Value) (n : Nat) : Prop where
 eq : l.length = n
instance KT.nil : KT [] 0 := ⟨rfl⟩
instance KT.cons (a : Value) (l : List Value) (n : Nat) [h : KT l n] : KT (a :: l) (n + 1) := ⟨by simp [h.eq]⟩
class Sg (ps : List (Nat × Nat)) (zero : List Value) (xs : List (Nat × Value)) (cs : outParam (List Value)) : Prop where
 eq : cC (fun i => ps[i]?) zero xs = some cs
instance Sg.nil (ps : List (Nat × Nat)) (zero : List Value) : Sg ps zero [] zero := ⟨rfl⟩
instance Sg.cons (ps : List (Nat × Nat)) (zero z l cs : List Value) (i o n : Nat) (v : Value) (xs : List (Nat × Value)) [h1 : Sh ps i o n] [h2 : s0 v l] [h3 : KT l n] [h4 : uZ zero o l z] [h5 : Sg ps z xs cs] : Sg ps zero ((i, v) :: xs) cs := ⟨by
 obtain ⟨h6, rfl⟩ := h4.eq
 have h7 := h2.eq
 have h8 := h3.eq
 subst h7
 simp only [cC, h1.eq, Option.bind_some]
 rw [if_pos ⟨by simpa using h8, by rw [← h8]; exact h6⟩]
 exact h5.eq⟩
class ahZ (e : Nat) (zero : List Value) (xs : List (Nat × Value)) (cs : outParam (List Value)) : Prop where
 eq : cC (afV e) (List.replicate 1 zero).flatten xs = some cs
instance ahZ.one (e : Nat) (zero l z : List Value) (v : Value) [h2 : s0 v l] [h3 : KT l e] [h4 : uZ zero 0 l z] : ahZ e zero [(0, v)] z := ⟨by
 obtain ⟨h6, rfl⟩ := h4.eq
 have h7 := h2.eq
 have h8 := h3.eq
 subst h7
 have hz : (List.replicate 1 zero).flatten = zero := by simp
 rw [hz]
 simp only [cC, afV, Option.bind_some, Nat.zero_mul]
 rw [if_pos ⟨by simpa using h8, by rw [← h8]; exact h6⟩]⟩
theorem aI {p : List Stp} {k : Value → OV} (hp : OX p x b o) (hk : wp (k (oM b o)) Q) : wp (ad p x k) Q := by rw [hp k]; exact hk
theorem am {p : List Stp} {k : Value → OV} (h : ae P H) (hp : OX p x b o) [i : Hs P b (.cells ro cs)] (hv : cs[o]? = some v) (hk : wp (k v) Q) : wp (ld p x H k) Q := by
 unfold ld
 rw [hp, M6 h hv]
 exact hk
theorem aW {l : List Value} {p : List Stp} {k : Value → OV} (h : ae P H) (hp : OX p x b o) [i : Hs P b (.cells ro cs)] [s : CJ cs o n l] (hk : wp (k (.agg l.toArray)) Q) : wp (ldN n p x H k) Q := by
 obtain ⟨hn, rfl⟩ := s.eq
 unfold ldN
 rw [hp, M7 h hn]
 exact hk
theorem aK {cs' l : List Value} {p : List Stp} {k : AH → OV} (h : ae P H) (hp : OX p x b o) [i : Hs P b (.cells false cs)] [c : s0 v l] [s : uZ cs o l cs'] (hx : l.length = n) (hc : l.all Value.oneCell' = true)
 [u : Up P b (.cells false cs') P'] (hk : ∀ H', ae P' H' → wp (k H') Q) : wp (st n p x v H k) Q := by
 obtain ⟨hn, rfl⟩ := s.eq
 have hl := c.eq
 subst hl
 unfold st
 rw [hp, acZ h (by simpa using hx) (by simp at hx hn; omega) hc]
 exact hk _ (u.set h)
theorem aE {k : Value → OV} (h : ae P H) [i : Hs P b (.cells ro cs)] (hv : cs[o]? = some v) (hk : wp (k v) Q) : wp ((aq (oM b o) H).bind k) Q := aa (M6 h hv) hk
theorem aL {l : List Value} {k : Value → OV} (h : ae P H) [i : Hs P b (.cells ro cs)] [s : CJ cs o n l] (hk : wp (k (.agg l.toArray)) Q) : wp ((aD n (oM b o) H).bind k) Q := by
 obtain ⟨hn, rfl⟩ := s.eq
 exact aa (M7 h hn) hk
theorem bX {cs' l : List Value} {k : AH → OV} (h : ae P H) [i : Hs P b (.cells false cs)] [c : s0 v l] [s : uZ cs o l cs'] (hx : l.length = n) (hc : l.all Value.oneCell' = true)
 [u : Up P b (.cells false cs') P'] (hk : ∀ H', ae P' H' → wp (k H') Q) : wp ((dn n (oM b o) v H).bind k) Q := by
 obtain ⟨hn, rfl⟩ := s.eq
 have hl := c.eq
 subst hl
 rw [acZ h (by simpa using hx) (by simp at hx hn; omega) hc]
 exact hk _ (u.set h)
theorem aG {l : List Value} {k : Value → AH → OV} (h : ae P H) [c : s0 x l] (hk : ∀ b H', ae (blk b (.cells false l) * P) H' → wp (k (vp b) H') Q) : wp (aV (Value.cells x).toList H k) Q := by
 rw [c.eq]; exact aO h hk
theorem dO {ps : List (Nat × Nat)} {zero : List Value} {xs : List (Nat × Value)} {k : Value → OV} [f : Sg ps zero xs cs] (hk : wp (k (.agg cs.toArray)) Q) : wp (g6 ps zero xs k) Q := KF f.eq hk
theorem jH {zero : List Value} {xs : List (Nat × Value)} {k : Value → AH → OV} (h : ae P H) [f : ahZ e zero xs cs] (hk : ∀ b H', ae (blk b (.cells false cs) * P) H' → wp (k (vs b 1 e) H') Q) : wp (vJ 1 e zero xs H k) Q := EN h f.eq hk
theorem aA {P2 : SP} {H2 : AH} {ro2 : Bool} {cs2 : List Value} {k : OV} (h : ae P H) (h2 : ae P2 H2) [i : Hs P b (.cells ro cs)] [i2 : Hs P2 b (.cells ro2 cs2)] (e : cs[o]? = cs2[o]?) (hk : wp k Q) :
 wp (bD (aq (oM b o) H) (aq (oM b o) H2) k) Q := by
 refine rO ?_ hk
 simp only [aq, sr, dr, Option.bind_some, i.get h, i2.get h2]
 exact e
theorem bg {P2 : SP} {H2 : AH} {ro2 : Bool} {cs2 : List Value} {k : OV} (h : ae P H) (h2 : ae P2 H2) [i : Hs P b (.cells ro cs)] [i2 : Hs P2 b (.cells ro2 cs2)] (e : cs = cs2) (hk : wp k Q) :
 wp (bD (aD n (oM b o) H) (aD n (oM b o) H2) k) Q := by
 refine rO ?_ hk
 simp only [aD, sr, dr, Option.bind_some, i.get h, i2.get h2, e]
def Sp {α : Type} (f : Nat) (args : List Value) (P : SP) (v : α → Value) (Q : α → SP) : Prop := ∀ R H, ae (P * R) H → ∃ x H', FF f args H = some (v x, H') ∧ ae (Q x * R) H'
theorem av {α : Type} {f : Nat} {args : List Value} {P : SP} {v : α → Value} {Q : α → SP} (h : ∀ R H, ae (P * R) H → wp (FF f args H) fun v' H' => ∃ x, v' = v x ∧ ae (Q x * R) H') : Sp f args P v Q := by
 intro R H hh
 obtain ⟨v', H', e, x, rfl, hq⟩ := h R H hh
 exact ⟨x, H', e, hq⟩
theorem af {α : Type} {f : Nat} {args : List Value} {P0 : SP} {v : α → Value} {Q0 : α → SP} {k : Value × AH → OV} (h : ae P H) (s : Sp f args P0 v Q0) [fr : Fr P P0 R] (hk : ∀ x H', ae (Q0 x * R) H' → wp (k (v x, H')) Q) : wp ((FF f args H).bind k) Q := by
 obtain ⟨x, H', e, h'⟩ := s R H h.fr
 rw [e]
 exact hk x H' h'
end
end Go.Proofs.YtodpbobjmkhcfaaGreatDoor.Gst
