/- Several texts in one. -/
import Derived.Test.YtodpbobjmkhcfaaGreatDoorQa
namespace Go.Proofs.YtodpbobjmkhcfaaGreatDoor.Gst
open Go Go.RowKit
set_option linter.unusedSimpArgs false
def pW (ops : List Oper) : Bool :=
 let ms := bB ops
 ops.zipIdx.all (fun p => p.1.after.toList.all fun e => !Region.binds .any e || decide (e.on < p.2)) &&
 ops.zipIdx.all fun q => (ops.zipIdx.take q.2).all fun p => fb ms p.2 q.2 || (p.1.apart ops.toArray q.1 && !(iS p.1.op == 3 && iS q.1.op == 3))
def cO (ops : List Oper) : List (Nat × Nat) :=
 let ms := bB ops
 (ops.zipIdx.filter fun p => iS p.1.op == 2).flatMap fun p => ((ops.zipIdx.filter fun q => iS q.1.op == 3 && !fb ms q.2 p.2 && !fb ms p.2 q.2).map fun q => (p.2, q.2))
def gY (P : Program) (G : List Nat) (call : be) (ops : Array Oper) (A : List Value) (H : AH) (i : Nat) : List Value × AH := (cp P G call ops (ops.toList.take i) A H).getD (A, H)
def hJ (P : Program) (s : Nat → List Value × AH) (ops : Array Oper) (p : Nat × Nat) : Prop :=
 ∀ o, ops[p.1]? = some o → wA P (dK (s p.1).1) o.op (s (if p.2 < p.1 then p.2 else p.2 + 1)).2 = wA P (dK (s p.1).1) o.op (s p.1).2
open Classical in
noncomputable def Ey {α : Type} (p : Prop) (x : Option α) : Option α := if p then x else none
theorem lm {α : Type} {p : Prop} {x : Option α} {r : α} (h : Ey p x = some r) : p ∧ x = some r := by
 unfold Ey at h
 split at h
 ·exact ⟨by assumption, h⟩
 ·cases h
theorem iG {α : Type} {p : Prop} (h : p) (x : Option α) : Ey p x = x := by unfold Ey; rw [if_pos h]
noncomputable def ka (P : Program) (G : List Nat) (call : be) (ops : Array Oper) (A : List Value) (H : AH) : Option (List Value × AH) :=
 match pW ops.toList with
 | false => none
 | true => match cO ops.toList with
  | [] => cp P G call ops ops.toList A H
  | p :: ps => Ey (∀ q ∈ p :: ps, hJ P (gY P G call ops A H) ops q) (cp P G call ops ops.toList A H)
theorem eg {P : Program} {G : List Nat} {call : be} {ops : Array Oper} {A : List Value} {H : AH} {r : List Value × AH} (h : ka P G call ops A H = some r) :
 pW ops.toList = true ∧ (∀ p ∈ cO ops.toList, hJ P (gY P G call ops A H) ops p) ∧ cp P G call ops ops.toList A H = some r := by
 unfold ka at h
 cases h1 : pW ops.toList with
 | false => rw [h1] at h; cases h
 | true =>
  rw [h1] at h
  refine ⟨rfl, ?_⟩
  cases h2 : cO ops.toList with
  | nil => rw [h2] at h; exact ⟨fun p hp => (by cases hp), h⟩
  | cons p ps =>
   rw [h2] at h
   exact lm h
section
variable {P : Program} {w0 : World} {B : Nat} {ρ : bg} {H : AH} {w : World} {G : List Nat} {call : be} {ops : Array Oper}
theorem uk (l1 l2 : List Oper) (A : List Value) (H : AH) : cp P G call ops (l1 ++ l2) A H = (cp P G call ops l1 A H).bind fun s => cp P G call ops l2 s.1 s.2 := by
 induction l1 generalizing A H with
 | nil => rfl
 | cons o l ih =>
  simp only [List.cons_append, cp]
  rw [Option.bind_assoc]
  congr 1
  funext s
  exact ih s.1 s.2
theorem s8 {A : List Value} {r : List Value × AH} (h : cp P G call ops ops.toList A H = some r) (i : Nat) : cp P G call ops (ops.toList.take i) A H = some (gY P G call ops A H i) := by
 unfold gY
 have e : ops.toList = ops.toList.take i ++ ops.toList.drop i := (List.take_append_drop ..).symm
 rw [e, uk] at h
 obtain ⟨s, hs, _⟩ := Option.bind_eq_some_iff.1 h
 rw [hs]; rfl
theorem V5 (A : List Value) : gY P G call ops A H 0 = (A, H) := rfl
theorem Ya {A : List Value} {r : List Value × AH} (h : cp P G call ops ops.toList A H = some r) : gY P G call ops A H ops.size = r := by
 unfold gY
 rw [show ops.size = ops.toList.length by simp, List.take_length, h]
 rfl
theorem GJ {A : List Value} {r : List Value × AH} (h : cp P G call ops ops.toList A H = some r) {i : Nat} {o : Oper} (ho : ops[i]? = some o) :
 eh P G call ops o (gY P G call ops A H i).1 (gY P G call ops A H i).2 = some (gY P G call ops A H (i + 1)) := by
 have ho' : ops.toList[i]? = some o := by simpa using ho
 have h1 := s8 h (i + 1)
 rw [List.take_add_one, ho', Option.toList_some, uk, s8 h i] at h1
 simp only [Option.bind_some, cp] at h1
 obtain ⟨s, hs, e⟩ := Option.bind_eq_some_iff.1 h1
 rw [hs]
 exact e
noncomputable def abQ (P : Program) (G : List Nat) (call : be) (ops : Array Oper) (A : List Value) (H : AH) (i : Nat) : Value :=
 match ops[i]? with
 | some o => if Region.wanted o (cK ops (gY P G call ops A H i).1) = true then ((dj P call (dK (gY P G call ops A H i).1) o (gY P G call ops A H i).2).map (·.1)).getD undef else undef
 | none => undef
theorem JK (h : pW ops.toList = true) : ∀ j o, ops[j]? = some o → ∀ e ∈ o.after, Region.binds .any e = true → e.on < j := by
 intro j o ho e he hb
 unfold pW at h
 simp only [Bool.and_eq_true, List.all_eq_true] at h
 have ho' : ops.toList[j]? = some o := by simpa using ho
 have hm : (o, j) ∈ ops.toList.zipIdx := by
  rw [List.mem_iff_getElem?]
  exact ⟨j, by rw [List.getElem?_zipIdx, ho']; simp⟩
 have := h.1 (o, j) hm e (by simpa using he)
 simpa [hb] using this
theorem JL (h : pW ops.toList = true) : ∀ i j oi oj, i < j → ops[i]? = some oi → ops[j]? = some oj → fb (bB ops.toList) i j = true ∨ (oi.apart ops oj = true ∧ ¬ (iS oi.op = 3 ∧ iS oj.op = 3)) := by
 intro i j oi oj hij hi hj
 unfold pW at h
 simp only [Bool.and_eq_true, List.all_eq_true] at h
 have hi' : ops.toList[i]? = some oi := by simpa using hi
 have hj' : ops.toList[j]? = some oj := by simpa using hj
 have hm : (oj, j) ∈ ops.toList.zipIdx := by
  rw [List.mem_iff_getElem?]
  exact ⟨j, by rw [List.getElem?_zipIdx, hj']; simp⟩
 have hm2 : (oi, i) ∈ ops.toList.zipIdx.take j := by
  rw [List.mem_iff_getElem?]
  exact ⟨i, by rw [List.getElem?_take, if_pos hij, List.getElem?_zipIdx, hi']; simp⟩
 have := h.2 (oj, j) hm (oi, i) hm2
 simp only [Bool.or_eq_true, Bool.and_eq_true, Bool.not_eq_true', Bool.and_eq_false_iff, beq_eq_false_iff_ne, Array.toArray_toList] at this
 rcases this with h1 | ⟨h1, h2⟩
 ·exact .inl h1
 ·exact .inr ⟨h1, fun h3 => by rcases h2 with h2 | h2; exact h2 h3.1; exact h2 h3.2⟩
theorem zX {j e : Nat} {oj oe : Oper} (hj : ops[j]? = some oj) (he : ops[e]? = some oe) (h2 : iS oj.op = 2) (h3 : iS oe.op = 3) (hf1 : fb (bB ops.toList) e j = false) (hf2 : fb (bB ops.toList) j e = false) : (j, e) ∈ cO ops.toList := by
 have hj' : ops.toList[j]? = some oj := by simpa using hj
 have he' : ops.toList[e]? = some oe := by simpa using he
 unfold cO
 simp only [List.mem_flatMap, List.mem_filter, List.mem_map]
 refine ⟨(oj, j), ⟨?_, by simp [h2]⟩, (oe, e), ⟨?_, by simp [h3, hf1, hf2]⟩, rfl⟩
 ·rw [List.mem_iff_getElem?]; exact ⟨j, by rw [List.getElem?_zipIdx, hj']; simp⟩
 ·rw [List.mem_iff_getElem?]; exact ⟨e, by rw [List.getElem?_zipIdx, he']; simp⟩
noncomputable def YX {A : List Value} {r : List Value × AH} (h : ka P G call ops A H = some r) : Tra P G call ops where
 s := gY P G call ops A H
 val := abQ P G call ops A H
 step := fun i o ho => by
  obtain ⟨_, _, hr⟩ := eg h
  have hs := GJ hr ho
  unfold eh at hs
  split at hs
  ·rename_i hok
   refine ⟨hok, ?_⟩
   unfold abQ
   rw [ho]
   simp only
   split at hs
   ·rename_i hw
    obtain ⟨⟨v, H2⟩, hv, e⟩ := Option.map_eq_some_iff.1 hs
    rw [if_pos hw, hv, ← e]
    exact ⟨rfl, .inl ⟨hw, rfl⟩⟩
   ·rename_i hw
    rw [if_neg hw]
    have e := (Option.some.inj hs).symm
    rw [e]
    exact ⟨rfl, .inr ⟨by simpa using hw, rfl, rfl⟩⟩
  ·cases hs
 back := JK (eg h).1
 pair := JL (eg h).1
 look := fun j e oj oe hj he h2 h3 hf1 hf2 => (eg h).2.1 (j, e) (zX hj he h2 h3 hf1 hf2) oj hj
theorem Hy (hcall : jz P G call) (hmono : fq call) (hm : P.follows .mixedOrders = true) {id : Nat} {Q : Exit → Act → World → Prop} {A : List Value} {a : Act} {A' : List Value} {H' : AH} (h : ka P G call ops A H = some (A', H'))
 (hA : bH P ρ A a) (hG : GlobRel ρ G) (hR : Rel P w0 B ρ H w) (hQ : ∀ a' w', wt P w0 B G ρ H w A' H' a' w' → Q .normal a' w') : (Code.region id ops true).wp P Q a w := by
 have W : Way (YX h) w0 B ρ w.drew := ⟨hcall, hmono, hG, hR.drew, ⟨a, hA⟩⟩
 refine JM W hm (w := w) rfl hA (fun a' w' hp => hQ a' w' ?_)
 obtain ⟨ρ', h1, h2, h3, h4⟩ := hp
 have e : (YX h).s ops.size = (A', H') := Ya (eg h).2.2
 rw [e] at h1 h3 h4
 exact ⟨ρ', h1, h2, gj.of_drew h3, h4⟩
end
inductive AE where
 | normal
 | exit (id : Nat)
 | ret
deriving DecidableEq
abbrev AR := AE × List Value × AH
def du (f : List Value → AH → Option AR) : Nat → List Value → AH → Option AR
 | 0, _, _ => none
 | n + 1, A, H => (f A H).bind fun r => match r.1 with
  | .normal => du f n r.2.1 r.2.2
  | _ => some r
theorem wy {f : List Value → AH → Option AR} {n : Nat} {A : List Value} {H : AH} {r : AR} (h : du f n A H = some r) : ∀ m, n ≤ m → du f m A H = some r := by
 induction n generalizing A H with
 | zero => cases h
 | succ n ih =>
  intro m hm
  obtain ⟨m, rfl⟩ : ∃ k, m = k + 1 := ⟨m - 1, by omega⟩
  simp only [du] at h ⊢
  obtain ⟨s, hs, h⟩ := Option.bind_eq_some_iff.1 h
  rw [hs]
  simp only [Option.bind_some]
  split at h
  ·exact ih h m (by omega)
  ·exact h
open Classical in
noncomputable def mG (f : List Value → AH → Option AR) (A : List Value) (H : AH) : Option AR := if h : ∃ n r, du f n A H = some r then some h.choose_spec.choose else none
theorem cn {f : List Value → AH → Option AR} {A : List Value} {H : AH} {r : AR} : mG f A H = some r ↔ ∃ n, du f n A H = some r := by
 unfold mG
 constructor
 ·intro h
  split at h
  ·rename_i hx
   cases h
   exact ⟨_, hx.choose_spec.choose_spec⟩
  ·cases h
 ·rintro ⟨n, hn⟩
  have hx : ∃ n r, du f n A H = some r := ⟨n, r, hn⟩
  rw [dif_pos hx]
  have h1 := wy hx.choose_spec.choose_spec (max n hx.choose) (Nat.le_max_right ..)
  have h2 := wy hn (max n hx.choose) (Nat.le_max_left ..)
  rw [h2] at h1
  exact h1.symm
theorem Rm (f : List Value → AH → Option AR) (A : List Value) (H : AH) : mG f A H = (f A H).bind fun r => match r.1 with | .normal => mG f r.2.1 r.2.2 | _ => some r := by
 apply Option.ext
 intro r
 rw [cn]
 constructor
 ·rintro ⟨n, hn⟩
  cases n with
  | zero => cases hn
  | succ n =>
   simp only [du] at hn
   obtain ⟨s, hs, h⟩ := Option.bind_eq_some_iff.1 hn
   rw [hs]
   simp only [Option.bind_some]
   split at h
   ·exact cn.2 ⟨n, h⟩
   ·exact h
 ·intro h
  obtain ⟨s, hs, h⟩ := Option.bind_eq_some_iff.1 h
  split at h
  ·rename_i e
   obtain ⟨n, hn⟩ := cn.1 h
   refine ⟨n + 1, ?_⟩
   simp only [du, hs, Option.bind_some, e]
   exact hn
  ·rename_i e
   refine ⟨1, ?_⟩
   simp only [du, hs, Option.bind_some]
   exact h
noncomputable def d7 (P : Program) (G : List Nat) (call : be) (ops : Array Oper) (draw : Bool) (A : List Value) (H : AH) : Option (List Value × AH) :=
 match draw with
 | true => ka P G call ops A H
 | false => cp P G call ops ops.toList A H
noncomputable def aK (P : Program) (G : List Nat) (call : be) : Code → List Value → AH → Option AR
 | .skip, A, H => some (.normal, A, H)
 | .label _, A, H => some (.normal, A, H)
 | .region _ ops draw, A, H => (d7 P G call ops draw A H).map fun s => (.normal, s.1, s.2)
 | .seq x y, A, H => (aK P G call x A H).bind fun r => match r.1 with
  | .normal => aK P G call y r.2.1 r.2.2
  | _ => some r
 | .cond c x y, A, H => match dK A c with
  | .bool true => aK P G call x A H
  | .bool false => aK P G call y A H
  | _ => none
 | .block id x, A, H => (aK P G call x A H).map fun r => match r.1 with
  | .exit i => if i = id then (.normal, r.2.1, r.2.2) else r
  | _ => r
 | .loop x, A, H => mG (aK P G call x) A H
 | .exit id, A, H => some (.exit id, A, H)
 | .ret, A, H => some (.ret, A, H)
 | _, _, _ => none
def AE.to : AE → Exit
 | .normal => .normal
 | .exit id => .exit id
 | .ret => .ret
section
variable {P : Program} {w0 : World} {B : Nat} {G : List Nat} {call : be}
theorem wt.trans {ρ ρ1 : bg} {H H1 H2 : AH} {w w1 w2 : World} {A2 : List Value} {a2 : Act} (hR : Rel P w0 B ρ H w) (hE : gj ρ H w ρ1 H1 w1) (h : wt P w0 B G ρ1 H1 w1 A2 H2 a2 w2) : wt P w0 B G ρ H w A2 H2 a2 w2 := by
 obtain ⟨ρ', h1, h2, h3, h4⟩ := h
 exact ⟨ρ', h1, h2, hE.trans hR h3, h4⟩
theorem wM (hcall : jz P G call) (hmono : fq call) (hm : P.follows .mixedOrders = true) : ∀ (c : Code) {Q : Exit → Act → World → Prop} {ρ : bg} {A : List Value} {H : AH} {a : Act} {w : World} {e : AE} {A' : List Value} {H' : AH},
 aK P G call c A H = some (e, A', H') → bH P ρ A a → GlobRel ρ G → Rel P w0 B ρ H w → (∀ a' w', wt P w0 B G ρ H w A' H' a' w' → Q e.to a' w') → c.wp P Q a w := by
 intro c
 induction c with
 | skip =>
  intro Q ρ A H a w e A' H' h hA hG hR hQ
  simp only [aK] at h; cases h
  exact wp_skip (hQ a w ⟨ρ, hA, hG, gj.refl _ _ _, hR⟩)
 | label l =>
  intro Q ρ A H a w e A' H' h hA hG hR hQ
  simp only [aK] at h; cases h
  exact wp_label (hQ a w ⟨ρ, hA, hG, gj.refl _ _ _, hR⟩)
 | exit id =>
  intro Q ρ A H a w e A' H' h hA hG hR hQ
  simp only [aK] at h; cases h
  exact wp_exit (hQ a w ⟨ρ, hA, hG, gj.refl _ _ _, hR⟩)
 | ret =>
  intro Q ρ A H a w e A' H' h hA hG hR hQ
  simp only [aK] at h; cases h
  exact wp_ret (hQ a w ⟨ρ, hA, hG, gj.refl _ _ _, hR⟩)
 | region id ops draw =>
  intro Q ρ A H a w e A' H' h hA hG hR hQ
  simp only [aK] at h
  obtain ⟨⟨A1, H1⟩, hs, e1⟩ := Option.map_eq_some_iff.1 h
  cases e1
  cases draw with
  | true => exact Hy hcall hmono hm hs hA hG hR hQ
  | false => exact Gn hcall hs hA hG hR hQ
 | seq x y ihx ihy =>
  intro Q ρ A H a w e A' H' h hA hG hR hQ
  simp only [aK] at h
  obtain ⟨⟨e1, A1, H1⟩, hx, h⟩ := Option.bind_eq_some_iff.1 h
  refine wp_seq (ihx hx hA hG hR (fun a1 w1 hp => ?_))
  cases e1 with
  | normal =>
   simp only at h
   obtain ⟨ρ1, hA1, hG1, hE1, hR1⟩ := hp
   exact ihy h hA1 hG1 hR1 (fun a' w' hp => hQ a' w' (hp.trans hR hE1))
  | exit id => simp only at h; cases h; exact hQ a1 w1 hp
  | ret => simp only at h; cases h; exact hQ a1 w1 hp
 | cond c x y ihx ihy =>
  intro Q ρ A H a w e A' H' h hA hG hR hQ
  simp only [aK] at h
  have hc : ∀ t, dK A c = .bool t → a.eval c = .bool t := by
   intro t ht
   cases c with
   | tmp u =>
    simp only [dK] at ht
    cases hx : A[u]? with
    | none => rw [hx] at ht; simp [undef] at ht
    | some x =>
     rw [hx] at ht
     simp only [Option.getD_some] at ht
     subst ht
     obtain ⟨y, hy, hv⟩ := hA.tmps.get hx
     rw [Array.getElem?_toList] at hy
     simp only [Act.eval, Array.getD_eq_getD_getElem?, hy, Option.getD_some]
     exact hv.bool_inv
   | const v => exact ht
   | global g => cases ht
   | func f => cases ht
  split at h
  ·rename_i ht; exact wp_cond (hc _ ht) (ihx h hA hG hR hQ)
  ·rename_i ht; exact wp_cond (hc _ ht) (ihy h hA hG hR hQ)
  ·cases h
 | block id x ih =>
  intro Q ρ A H a w e A' H' h hA hG hR hQ
  simp only [aK] at h
  obtain ⟨⟨e1, A1, H1⟩, hx, e2⟩ := Option.map_eq_some_iff.1 h
  refine wp_block (ih hx hA hG hR (fun a1 w1 hp => ?_))
  cases e1 with
  | normal => simp only at e2; cases e2; exact hQ a1 w1 hp
  | ret => simp only at e2; cases e2; exact hQ a1 w1 hp
  | exit i =>
   simp only at e2
   simp only [AE.to, Exit.inBlock]
   split at e2
   ·rename_i hi; cases e2; rw [if_pos hi]; exact hQ a1 w1 hp
   ·rename_i hi; cases e2; rw [if_neg hi]; exact hQ a1 w1 hp
 | loop x ih =>
  intro Q ρ A H a w e A' H' h hA hG hR hQ
  simp only [aK] at h
  obtain ⟨n, hn⟩ := cn.1 h
  refine wp_loop_rounds n ?_
  clear h
  induction n generalizing ρ A H a w with
  | zero => cases hn
  | succ n ihn =>
   simp only [du] at hn
   obtain ⟨⟨e1, A1, H1⟩, hx, h⟩ := Option.bind_eq_some_iff.1 hn
   rw [rounds_succ]
   refine ih hx hA hG hR (fun a1 w1 hp => ?_)
   cases e1 with
   | normal =>
    simp only at h
    obtain ⟨ρ1, hA1, hG1, hE1, hR1⟩ := hp
    exact ihn hA1 hG1 hR1 (fun a' w' hp => hQ a' w' (hp.trans hR hE1)) h
   | exit id => simp only at h; cases h; exact hQ a1 w1 hp
   | ret => simp only at h; cases h; exact hQ a1 w1 hp
 | rangeFunc f ps x y => intro Q ρ A H a w e A' H' h; simp [aK] at h
 | scope x => intro Q ρ A H a w e A' H' h; simp [aK] at h
 | goto l => intro Q ρ A H a w e A' H' h; simp [aK] at h
 | refuse s => intro Q ρ A H a w e A' H' h; simp [aK] at h
theorem oM (hm : fq call) {ops : Array Oper} : ∀ (l : List Oper) {A : List Value} {H : AH} {r : List Value × AH}, cp P G call ops l A H = some r → H.size ≤ r.2.size := by
 intro l
 induction l with
 | nil => intro A H r h; simp only [cp] at h; cases h; exact Nat.le_refl _
 | cons o l ih =>
  intro A H r h
  simp only [cp] at h
  obtain ⟨s, hs, h⟩ := Option.bind_eq_some_iff.1 h
  refine Nat.le_trans ?_ (ih h)
  unfold eh at hs
  split at hs
  ·split at hs
   ·obtain ⟨⟨v, H2⟩, hv, e⟩ := Option.map_eq_some_iff.1 hs
    cases e; exact Em hm hv
   ·cases hs; exact Nat.le_refl _
  ·cases hs
theorem ww (hm : fq call) : ∀ (c : Code) {A : List Value} {H : AH} {r : AR}, aK P G call c A H = some r → H.size ≤ r.2.2.size := by
 intro c
 induction c with
 | skip => intro A H r h; simp only [aK] at h; cases h; exact Nat.le_refl _
 | label l => intro A H r h; simp only [aK] at h; cases h; exact Nat.le_refl _
 | exit id => intro A H r h; simp only [aK] at h; cases h; exact Nat.le_refl _
 | ret => intro A H r h; simp only [aK] at h; cases h; exact Nat.le_refl _
 | region id ops draw =>
  intro A H r h
  simp only [aK] at h
  obtain ⟨s, hs, e1⟩ := Option.map_eq_some_iff.1 h
  cases e1
  cases draw with
  | true => exact oM hm _ (eg hs).2.2
  | false => exact oM hm _ hs
 | seq x y ihx ihy =>
  intro A H r h
  simp only [aK] at h
  obtain ⟨s, hx, h⟩ := Option.bind_eq_some_iff.1 h
  have h1 := ihx hx
  split at h
  ·exact Nat.le_trans h1 (ihy h)
  ·cases h; exact h1
 | cond c x y ihx ihy =>
  intro A H r h
  simp only [aK] at h
  split at h
  ·exact ihx h
  ·exact ihy h
  ·cases h
 | block id x ih =>
  intro A H r h
  simp only [aK] at h
  obtain ⟨s, hx, e2⟩ := Option.map_eq_some_iff.1 h
  have h1 := ih hx
  split at e2
  ·split at e2 <;> (subst e2; exact h1)
  ·subst e2; exact h1
 | loop x ih =>
  intro A H r h
  simp only [aK] at h
  obtain ⟨n, hn⟩ := cn.1 h
  clear h
  induction n generalizing A H with
  | zero => cases hn
  | succ n ihn =>
   simp only [du] at hn
   obtain ⟨s, hx, h⟩ := Option.bind_eq_some_iff.1 hn
   have h1 := ih hx
   split at h
   ·exact Nat.le_trans h1 (ihn h)
   ·cases h; exact h1
 | rangeFunc f ps x y => intro A H r h; simp [aK] at h
 | scope x => intro A H r h; simp [aK] at h
 | goto l => intro A H r h; simp [aK] at h
 | refuse s => intro A H r h; simp [aK] at h
end
def i8 (P : Program) (A : List Value) (H : AH) : ResultVar → Option Value
 | .tmp t => some (A[t]?.getD undef)
 | .cell a t => (dJ P t).bind fun g => match g with
  | some n => aA n (A[a]?.getD undef) H
  | none => ar (A[a]?.getD undef) H
def pK (P : Program) (A : List Value) (H : AH) : List ResultVar → Option (List Value)
 | [] => some []
 | r :: rs => (i8 P A H r).bind fun v => (pK P A H rs).bind fun vs => some (v :: vs)
def gl (P : Program) (A : List Value) (H : AH) (rs : List ResultVar) : Option Value := (pK P A H rs).map fun vs => match vs with
 | [v] => v
 | vs => .tuple vs.toArray
def Rl (P : Program) (rs : List ResultVar) (r : AR) : Option (Value × AH) :=
 match r.1 with
 | .exit _ => none
 | _ => (gl P r.2.1 r.2.2 rs).map (·, r.2.2)
noncomputable def mF (P : Program) (G : List Nat) (call : be) (n : Nat) (rs : List ResultVar) (c : Code) (args : List Value) (H : AH) : Option (Value × AH) :=
 (aK P G call c (args ++ List.replicate (n - args.length) undef) H).bind (Rl P rs)
structure DSh where
 c1 : Code
 id2 : Nat
 ops2 : Array Oper
 om : Oper
 df : Oper
 t : Nat
 k : Nat
 id3 : Nat
 ops3 : Array Oper
def iU : Code → Option DSh
 | .seq c1 (.seq (.region id2 ops2 false) (.seq (.region id3 ops3 false) .ret)) => match ops2.toList with
  | [mk, df] => match mk.dst, mk.op, mk.guard, df.dst, df.op, df.guard with
   | some t, .makeFunc (.func k) first _, none, none, .defer ⟨.value (.tmp t'), args, _⟩, none => if t = t' ∧ first = #[] ∧ args = #[] then some ⟨c1, id2, ops2, mk, df, t, k, id3, ops3⟩ else none
   | _, _, _, _, _, _ => none
  | _ => none
 | _ => none
theorem ED {c : Code} {s : DSh} (h : iU c = some s) : c = .seq s.c1 (.seq (.region s.id2 s.ops2 false) (.seq (.region s.id3 s.ops3 false) .ret)) ∧ s.ops2.toList = [s.om, s.df] ∧ s.om.dst = some s.t ∧
 (∃ cap, s.om.op = .makeFunc (.func s.k) #[] cap) ∧ s.om.guard = none ∧ s.df.dst = none ∧ (∃ ats, s.df.op = .defer ⟨.value (.tmp s.t), #[], ats⟩) ∧ s.df.guard = none := by
 unfold iU at h
 split at h
 ·split at h
  ·rename_i hl
   split at h
   ·rename_i h1 h2 h3 h4 h5 h6
    split at h
    ·rename_i hc
     obtain ⟨rfl, rfl, rfl⟩ := hc
     cases h
     exact ⟨rfl, hl, h1, ⟨_, h2⟩, h3, h4, ⟨_, h5⟩, h6⟩
    ·cases h
   ·cases h
  ·cases h
 ·cases h
def qZ (P : Program) (k : Nat) : Prop :=
 (∃ fn, P.funcs[k]? = some fn ∧ fn.body.isSome = true ∧ fn.name ≠ "runtime.NumGoroutine") ∧
 ∀ (args : Array Value) (w : World), CallsD P k args .returning w fun e u' w' => (∃ v, e = .returned v) ∧ u' = .returning ∧ w' = w
noncomputable def lS (P : Program) (G : List Nat) (call : be) (n : Nat) (rs : List ResultVar) (s : DSh) (args : List Value) (H : AH) : Option (Value × AH) :=
 (aK P G call s.c1 (args ++ List.replicate (n - args.length) undef) H).bind fun r => match r.1 with
  | .normal => if r.2.1.length ≤ s.t then none else (eh P G call s.ops2 s.om r.2.1 r.2.2).bind fun q => (cp P G call s.ops3 s.ops3.toList q.1 q.2).bind fun z => (gl P z.1 z.2 rs).map (·, z.2)
  | _ => none
noncomputable def dI (P : Program) (G : List Nat) : Nat → be
 | 0 => fun _ _ _ => none
 | d + 1 => fun f args H => match P.funcs[f]? with
  | some fn => if fn.name = "runtime.NumGoroutine" then none else match fn.body with
   | some c => match iU c with
    | none => mF P G (dI P G d) fn.ntmps fn.results.toList c args H
    | some s => Ey (qZ P s.k) (lS P G (dI P G d) fn.ntmps fn.results.toList s args H)
   | none => none
  | none => none
section
variable {P : Program} {w0 : World} {B : Nat} {ρ : bg} {H : AH} {w : World} {G : List Nat} {call : be}
theorem JR {A : List Value} {a : Act} (hA : bH P ρ A a) (hR : Rel P w0 B ρ H w) {r : ResultVar} {v : Value} (h : i8 P A H r = some v) :
 ∃ v', (match r with | .tmp t => pure (a.tmps.getD t undef) | .cell x t => do loadVar t (← asAddr (a.tmps.getD x undef)) : Sem Value).run P w = .ok v' w ∧ VRel P ρ v v' := by
 have slot : ∀ t, VRel P ρ (A[t]?.getD undef) (a.tmps.getD t undef) := fun t => tq (G := []) hA (fun g hg => by simp at hg) (x := .tmp t) rfl
 cases r with
 | tmp t => simp only [i8] at h; cases h; exact ⟨_, rfl, slot t⟩
 | cell x t =>
  simp only [i8] at h
  obtain ⟨g, hg, h⟩ := Option.bind_eq_some_iff.1 h
  cases g with
  | none =>
   obtain ⟨a', y', ha, hr, hv⟩ := UA hR h (slot x)
   refine ⟨y', ?_, hv⟩
   simp only [ha]
   simp [asAddr, loadVar, lT hg]
   simpa using hr
  | some n =>
   obtain ⟨a', ys, ha, hr, hv⟩ := FP hR h (slot x)
   obtain ⟨hag, hsz⟩ := lU hg w
   refine ⟨.agg ys, ?_, hv⟩
   simp only [ha]
   simp [asAddr, loadVar, hag, b9 hsz, hr]
theorem UF {A : List Value} {a : Act} (hA : bH P ρ A a) (hR : Rel P w0 B ρ H w) : ∀ {rs : List ResultVar} {vs : List Value}, pK P A H rs = some vs →
 ∃ vs', (rs.mapM (fun r => (match r with | .tmp t => pure (a.tmps.getD t undef) | .cell x t => do loadVar t (← asAddr (a.tmps.getD x undef)) : Sem Value))).run P w = .ok vs' w ∧ LRel P ρ vs vs' := by
 intro rs
 induction rs with
 | nil => intro vs h; simp only [pK] at h; cases h; exact ⟨[], rfl, LRel.nil⟩
 | cons r rs ih =>
  intro vs h
  simp only [pK] at h
  obtain ⟨v, hv, h⟩ := Option.bind_eq_some_iff.1 h
  obtain ⟨vs0, hvs, h⟩ := Option.bind_eq_some_iff.1 h
  cases h
  obtain ⟨v', hr, hv'⟩ := JR hA hR hv
  obtain ⟨vs', hrs, hvs'⟩ := ih hvs
  refine ⟨v' :: vs', ?_, hvs'.cons hv'⟩
  rw [List.mapM_cons]
  simp only [Sem.run_bind, hr, Result.andThen_ok, hrs, Sem.run_pure]
theorem uG {A : List Value} {a : Act} (hA : bH P ρ A a) (hR : Rel P w0 B ρ H w) {fn : Func} {v : Value} (h : gl P A H fn.results.toList = some v) :
 ∃ v', (results fn a.tmps).run P w = .ok v' w ∧ VRel P ρ v v' := by
 unfold gl at h
 obtain ⟨vs, hvs, e⟩ := Option.map_eq_some_iff.1 h
 obtain ⟨vs', hrun, hl⟩ := UF hA hR hvs
 have hm : ∀ g : ResultVar → Sem Value, (fn.results.mapM g).run P w = ((fn.results.toList.mapM g >>= fun l => pure l.toArray : Sem (Array Value))).run P w := by
  intro g
  rw [Array.mapM_eq_mapM_toList]
  rfl
 have h2 : (results fn a.tmps).run P w = .ok (if h : vs'.toArray.size = 1 then vs'.toArray[0] else .tuple vs'.toArray) w := by
  unfold results
  rw [Sem.run_bind, hm, Sem.run_bind]
  erw [hrun]
  rfl
 refine ⟨_, h2, ?_⟩
 have hlen := hl.1
 split at e
 ·rename_i x
  subst e
  match vs', hlen, hl with
  | [y], _, hl => simpa using hl.2 0 _ _ rfl rfl
 ·rename_i hne
  subst e
  have : ¬ vs'.toArray.size = 1 := by
   intro h1
   match vs, hlen, hne with
   | [x], _, hne => exact hne x rfl
   | [], hlen, _ => simp at hlen h1; omega
   | x :: y :: zs, hlen, _ => simp at hlen h1; omega
  rw [dif_neg this]
  exact .tuple (by simp [hlen]) (fun i x y hx hy => hl.2 i x y (by simpa using hx) (by simpa using hy))
theorem Jg (hcall : jz P G call) {ops : Array Oper} (ds : List Deferred) {Q : Exit → Act → World → Prop} : ∀ (l : List Oper) {ρ : bg} {A : List Value} {H : AH} {a : Act} {w : World} {A' : List Value} {H' : AH}, cp P G call ops l A H = some (A', H') →
 bH P ρ A a → GlobRel ρ G → Rel P w0 B ρ H w → (∀ a' w', wt P w0 B G ρ H w A' H' a' w' → Q .normal { a' with defers := ds } w') → wpList P ops Q l { a with defers := ds } w := by
 intro l
 induction l with
 | nil =>
  intro ρ A H a w A' H' h hA hG hR hQ
  simp only [cp] at h
  cases h
  exact hQ a w ⟨ρ, hA, hG, gj.refl _ _ _, hR⟩
 | cons o rest ih =>
  intro ρ A H a w A' H' h hA hG hR hQ
  simp only [cp] at h
  obtain ⟨⟨A1, H1⟩, hs, h⟩ := Option.bind_eq_some_iff.1 h
  simp only at h
  unfold eh at hs
  split at hs
  ·rename_i hok
   unfold wpList
   have hwr := qV hA ops o
   rw [show Region.wanted o (yielded ops ({ a with defers := ds } : Act).tmps) = Region.wanted o (cK ops A) from hwr]
   split at hs
   ·rename_i hw
    rw [if_pos hw]
    obtain ⟨⟨v, H2⟩, ho, e⟩ := Option.map_eq_some_iff.1 hs
    cases e
    have hr := sq hcall hA hG hR hok ho
    refine .inl (dt.wp (a := { a with defers := ds }) (dt.congr hr rfl) (fun v' w' hv => ?_))
    obtain ⟨ρ', hv, hE, hR'⟩ := hv
    have := ih (a := a.put o.dst v') h (iA (hA.mono hE.le) o.dst hv) (hG.mono hE.le) hR' (fun a' w'' hp => hQ a' w'' (hp.trans hR hE))
    have e : ({ a.put o.dst v' with defers := ds } : Act) = ({ a with defers := ds } : Act).put o.dst v' := by cases o.dst <;> rfl
    rw [e] at this
    exact this
   ·rename_i hw
    rw [if_neg hw]
    cases hs
    have := ih (a := a.put o.dst undef) h (iA hA o.dst VRel.undef) hG hR hQ
    have e : ({ a.put o.dst undef with defers := ds } : Act) = ({ a with defers := ds } : Act).put o.dst undef := by cases o.dst <;> rfl
    rw [e] at this
    exact this
  ·cases hs
theorem EC (hcall : jz P G call) (hmono : fq call) (hm : P.follows .mixedOrders = true) {f : Nat} {fn : Func} {c : Code} {s : DSh} (hf : P.funcs[f]? = some fn) (hb : fn.body = some c) (hd : iU c = some s)
 {args : List Value} {args' : Array Value} {v : Value} {H' : AH} (h : Ey (qZ P s.k) (lS P G call fn.ntmps fn.results.toList s args H) = some (v, H'))
 (hA : bH P ρ (args ++ List.replicate (fn.ntmps - args.length) undef) { tmps := args' ++ Array.replicate (fn.ntmps - args'.size) undef, defers := [] }) (hG : GlobRel ρ G) (hR : Rel P w0 B ρ H w) :
 Calls P f args' w fun e w' => ∃ v' ρ', e = .returned v' ∧ VRel P ρ' v v' ∧ gj ρ H w ρ' H' w' ∧ Rel P w0 B ρ' H' w' := by
 obtain ⟨⟨⟨fk, hfk, hbk, hnk⟩, hcd⟩, h⟩ := lm h
 obtain ⟨hc, hl2, hdst, ⟨cap, hop⟩, hg, hdd, ⟨ats, hdo⟩, hdg⟩ := ED hd
 unfold lS at h
 obtain ⟨⟨e1, A1, H1⟩, h1, h⟩ := Option.bind_eq_some_iff.1 h
 cases e1 with
 | exit i => cases h
 | ret => cases h
 | normal =>
  simp only at h
  split at h
  ·cases h
  rename_i hlt
  obtain ⟨⟨A2, H2⟩, h2, h⟩ := Option.bind_eq_some_iff.1 h
  obtain ⟨⟨A3, H3⟩, h3, h⟩ := Option.bind_eq_some_iff.1 h
  obtain ⟨x, hx, e⟩ := Option.map_eq_some_iff.1 h
  cases e
  refine calls_of_wp_defers hf hb ?_
  rw [hc]
  refine wp_seq (wM hcall hmono hm s.c1 h1 hA hG hR (fun a1 w1 hp => ?_))
  obtain ⟨ρ1, hA1, hG1, hE1, hR1⟩ := hp
  refine wp_seq (wp_region_list ?_)
  rw [hl2]
  have hd1 : a1.defers = [] := hA1.defers
  unfold eh at h2
  split at h2
  ·rename_i hok
   have hwt : Region.wanted s.om (cK s.ops2 A1) = true := by simp [Region.wanted, hg]
   rw [if_pos hwt] at h2
   obtain ⟨⟨y, H2'⟩, ho, e⟩ := Option.map_eq_some_iff.1 h2
   cases e
   refine wpList_plain hg (fun K hK => dt.wp (sq hcall hA1 hG1 hR1 hok ho) (fun v' w2 hv => hK _ _ ?_))
   obtain ⟨ρ2, hv, hE2, hR2⟩ := hv
   have hy : y = .func (.func s.k) #[] (cap.map (dK A1)) := by
    unfold dj at ho
    rw [hop] at ho
    simp at ho
    exact ho.1.symm
   rw [hy] at hv
   obtain ⟨f', c', rfl, hf', _⟩ := hv.func_inv
   have hf0 : f' = #[] := by
    have := hf'.1
    simp at this
    exact Array.eq_empty_of_size_eq_zero (by simpa using this.symm)
   subst hf0
   refine wpList_plain hdg (fun K' hK' => ?_)
   have ht : (a1.put s.om.dst (.func (.func s.k) #[] c')).eval (.tmp s.t) = .func (.func s.k) #[] c' := by
    have hsz : s.t < a1.tmps.size := by have := hA1.tmps.1; simp at this; omega
    rw [hdst]
    simp [Act.put, Act.eval, hsz, Array.getD]
   have hrun : (execOp (a1.put s.om.dst (.func (.func s.k) #[] c')).eval s.df).run P w2 = .ok (.defer { target := .fn (.func s.k) c', args := #[] }) w2 := by
    simp [execOp, hdo, resolve, ht, Deferred.ofValue]
   unfold Oper.wp
   rw [hrun, Oper.upon_defer]
   refine hK' _ _ (wpList_nil ?_)
   rw [hdd]
   have hA2 := iA (hA1.mono hE2.le) s.om.dst hv
   have hpd : ∀ (a : Act) (d : Option Tmp) (x : Value), (a.put d x).defers = a.defers := by intro a d x; cases d <;> rfl
   have e : ({ a1.put s.om.dst (.func (.func s.k) #[] c') with defers := { target := .fn (.func s.k) c', args := #[] } :: (a1.put s.om.dst (.func (.func s.k) #[] c')).defers } : Act).put none undef
    = { a1.put s.om.dst (.func (.func s.k) #[] c') with defers := [{ target := .fn (.func s.k) c', args := #[] }] } := by
    rw [hpd, hd1]; rfl
   rw [e]
   show (Code.seq (.region s.id3 s.ops3 false) .ret).wp P _ _ _
   rw [hy] at h3
   refine wp_seq (wp_region_list (Jg hcall _ _ h3 hA2 (hG1.mono hE2.le) hR2 (fun a3 w3 hp => ?_)))
   obtain ⟨ρ3, hA3, hG3, hE3, hR3⟩ := hp
   refine wp_ret ?_
   obtain ⟨v3, hr3, hv3⟩ := uG hA3 hR3 hx
   have hbn : ¬ (fk.body = none) := by intro hb; rw [hb] at hbk; cases hbk
   refine leaves_cons (f := s.k) (args := c') (by simp) (by simp [invoke, callFunc, hfk, hnk, hbn]) (CallsD.mono (hcd _ _) ?_)
   rintro e' u' w' ⟨⟨v0, rfl⟩, rfl, rfl⟩
   exact ⟨v3, hr3, v3, ρ3, rfl, hv3, hE1.trans hR (hE2.trans hR1 hE3), hR3⟩
  ·cases h2
theorem El (hm : fq call) {n : Nat} {rs : List ResultVar} {s : DSh} {args : List Value} {v : Value} {H' : AH} (h : lS P G call n rs s args H = some (v, H')) : H.size ≤ H'.size := by
 unfold lS at h
 obtain ⟨⟨e1, A1, H1⟩, h1, h⟩ := Option.bind_eq_some_iff.1 h
 cases e1 with
 | exit i => cases h
 | ret => cases h
 | normal =>
  simp only at h
  split at h
  ·cases h
  obtain ⟨⟨A2, H2⟩, h2, h⟩ := Option.bind_eq_some_iff.1 h
  obtain ⟨⟨A3, H3⟩, h3, h⟩ := Option.bind_eq_some_iff.1 h
  obtain ⟨x, hx, e⟩ := Option.map_eq_some_iff.1 h
  cases e
  have g1 := ww hm _ h1
  have g2 : H1.size ≤ H2.size := oM (P := P) (G := G) (call := call) hm [s.om] (ops := s.ops2) (A := A1) (H := H1) (r := (A2, H2)) (by simp [cp, h2])
  have g3 := oM hm _ h3
  simp only at g1 g3
  exact Nat.le_trans g1 (Nat.le_trans g2 g3)
theorem wK (hm : P.follows .mixedOrders = true) : ∀ d, jz P G (dI P G d) ∧ fq (dI P G d) := by
 intro d
 induction d with
 | zero => exact ⟨fun f args H v H' h => (by cases h), fun f args H v H' h => (by cases h)⟩
 | succ d ih =>
  constructor
  ·intro f args H v H' h
   simp only [dI] at h
   cases hf : P.funcs[f]? with
   | none => rw [hf] at h; cases h
   | some fn =>
    rw [hf] at h
    simp only at h
    split at h
    ·cases h
    ·rename_i hname
     cases hb : fn.body with
     | none => rw [hb] at h; cases h
     | some c =>
      rw [hb] at h
      simp only at h
      refine ⟨⟨fn, rfl, by rw [hb]; rfl, hname⟩, fun w0 B ρ w args' hR hG hargs => ?_⟩
      have hA : bH P ρ (args ++ List.replicate (fn.ntmps - args.length) undef) { tmps := args'.toArray ++ Array.replicate (fn.ntmps - args'.toArray.size) undef, defers := [] } := by
       refine ⟨?_, rfl⟩
       simp only [Array.toList_append, Array.toList_replicate, List.size_toArray]
       rw [hargs.1]
       refine hargs.append ⟨rfl, fun i x y hx hy => ?_⟩
       rw [hx] at hy
       cases hy
       rw [List.getElem?_replicate] at hx
       split at hx
       ·cases hx; exact VRel.undef
       ·cases hx
      cases hd : iU c with
      | some s => rw [hd] at h; exact EC ih.1 ih.2 hm hf hb hd h hA hG hR
      | none =>
      rw [hd] at h
      simp only [mF] at h
      obtain ⟨⟨e, A', H2⟩, hc, h⟩ := Option.bind_eq_some_iff.1 h
      refine calls_of_wp hf hb ?_
      refine wM ih.1 ih.2 hm c hc hA hG hR (fun a' w' hp => ?_)
      obtain ⟨ρ', hA', hG', hE, hR'⟩ := hp
      have fin : ∀ {x : Value} {H3 : AH}, (gl P A' H2 fn.results.toList).map (·, H2) = some (x, H3) → a'.defers = [] ∧ ∃ v', (results fn a'.tmps).run P w' = .ok v' w' ∧ ∃ v'' ρ'', Ending.returned v' = .returned v'' ∧ VRel P ρ'' x v'' ∧ gj ρ H w ρ'' H3 w' ∧ Rel P w0 B ρ'' H3 w' := by
       intro x H3 hx
       obtain ⟨y, hy, e⟩ := Option.map_eq_some_iff.1 hx
       cases e
       obtain ⟨v', hr, hv⟩ := uG hA' hR' hy
       exact ⟨hA'.defers, v', hr, v', ρ', rfl, hv, hE, hR'⟩
      cases e with
      | normal => exact fin h
      | ret => exact fin h
      | exit i => cases h
  ·intro f args H v H' h
   simp only [dI] at h
   cases hf : P.funcs[f]? with
   | none => rw [hf] at h; cases h
   | some fn =>
    rw [hf] at h
    simp only at h
    split at h
    ·cases h
    ·cases hb : fn.body with
     | none => rw [hb] at h; cases h
     | some c =>
      rw [hb] at h
      simp only [mF] at h
      cases hd : iU c with
      | some s =>
       rw [hd] at h
       obtain ⟨_, h⟩ := lm h
       exact El ih.2 h
      | none =>
      rw [hd] at h
      simp only at h
      obtain ⟨⟨e, A', H2⟩, hc, h⟩ := Option.bind_eq_some_iff.1 h
      have h1 := ww ih.2 c hc
      unfold Rl at h
      split at h
      ·cases h
      ·obtain ⟨y, hy, e⟩ := Option.map_eq_some_iff.1 h
       cases e; exact h1
end
def Rh (c1 c2 : be) : Prop := ∀ f args H r, c1 f args H = some r → c2 f args H = some r
section
variable {P : Program} {G : List Nat} {c1 c2 : be}
theorem Zj (h : Rh c1 c2) {ev : Operand → Value} {o : Oper} {H : AH} {r : Value × AH} (hr : dj P c1 ev o H = some r) : dj P c2 ev o H = some r := by
 obtain ⟨dst, op, type, pos, after, guard⟩ := o
 cases op with
 | call c =>
  obtain ⟨callee, args, ats⟩ := c
  cases callee with
  | value f =>
   simp only [dj] at hr ⊢
   obtain ⟨x, hx, hr⟩ := Option.bind_eq_some_iff.1 hr
   rw [hx]
   exact h _ _ _ _ hr
  | invoke r m => exact hr
  | builtin b => exact hr
 | makeMap t r => cases r <;> exact hr
 | slice t x lo hi mx => cases lo <;> cases hi <;> cases mx <;> exact hr
 | _ => exact hr
theorem wB (h : Rh c1 c2) {ops : Array Oper} {o : Oper} {A : List Value} {H : AH} {r : List Value × AH} (hr : eh P G c1 ops o A H = some r) : eh P G c2 ops o A H = some r := by
 unfold eh at hr ⊢
 split at hr
 ·rename_i hok
  rw [if_pos hok]
  split at hr
  ·rename_i hw
   rw [if_pos hw]
   obtain ⟨x, hx, e⟩ := Option.map_eq_some_iff.1 hr
   rw [Zj h hx]
   exact congrArg some e
  ·rename_i hw
   rw [if_neg hw]
   exact hr
 ·cases hr
theorem oL (h : Rh c1 c2) {ops : Array Oper} : ∀ (l : List Oper) {A : List Value} {H : AH} {r : List Value × AH}, cp P G c1 ops l A H = some r → cp P G c2 ops l A H = some r := by
 intro l
 induction l with
 | nil => intro A H r hr; exact hr
 | cons o l ih =>
  intro A H r hr
  simp only [cp] at hr ⊢
  obtain ⟨s, hs, hr⟩ := Option.bind_eq_some_iff.1 hr
  rw [wB h hs]
  exact ih hr
theorem V4 (h : Rh c1 c2) {ops : Array Oper} {A : List Value} {H : AH} {r : List Value × AH} (hr : cp P G c1 ops ops.toList A H = some r) : gY P G c2 ops A H = gY P G c1 ops A H := by
 funext i
 have h1 := oL h _ (s8 hr i)
 unfold gY at h1 ⊢
 rw [h1]; rfl
theorem Rk (h : Rh c1 c2) {ops : Array Oper} {A : List Value} {H : AH} {r : List Value × AH} (hr : ka P G c1 ops A H = some r) : ka P G c2 ops A H = some r := by
 obtain ⟨h1, h2, h3⟩ := eg hr
 unfold ka
 rw [h1]
 simp only
 cases h4 : cO ops.toList with
 | nil => exact oL h _ h3
 | cons p ps =>
  simp only
  rw [iG ?_]
  ·exact oL h _ h3
  ·rw [V4 h h3, ← h4]; exact h2
theorem lk (h : Rh c1 c2) : ∀ (c : Code) {A : List Value} {H : AH} {r : AR}, aK P G c1 c A H = some r → aK P G c2 c A H = some r := by
 intro c
 induction c with
 | region id ops draw =>
  intro A H r hr
  simp only [aK] at hr ⊢
  obtain ⟨s, hs, e1⟩ := Option.map_eq_some_iff.1 hr
  have : d7 P G c2 ops draw A H = some s := by
   cases draw with
   | true => exact Rk h hs
   | false => exact oL h _ hs
  rw [this]; exact congrArg some e1
 | seq x y ihx ihy =>
  intro A H r hr
  simp only [aK] at hr ⊢
  obtain ⟨s, hx, hr⟩ := Option.bind_eq_some_iff.1 hr
  rw [ihx hx]
  simp only [Option.bind_some]
  split at hr
  ·exact ihy hr
  ·exact hr
 | cond c x y ihx ihy =>
  intro A H r hr
  simp only [aK] at hr ⊢
  split at hr
  ·exact ihx hr
  ·exact ihy hr
  ·cases hr
 | block id x ih =>
  intro A H r hr
  simp only [aK] at hr ⊢
  obtain ⟨s, hx, e2⟩ := Option.map_eq_some_iff.1 hr
  rw [ih hx]; exact congrArg some e2
 | loop x ih =>
  intro A H r hr
  simp only [aK] at hr ⊢
  obtain ⟨n, hn⟩ := cn.1 hr
  refine cn.2 ⟨n, ?_⟩
  clear hr
  induction n generalizing A H with
  | zero => cases hn
  | succ n ihn =>
   simp only [du] at hn ⊢
   obtain ⟨s, hx, hr⟩ := Option.bind_eq_some_iff.1 hn
   rw [ih hx]
   simp only [Option.bind_some]
   split at hr
   ·exact ihn hr
   ·exact hr
 | _ => intro A H r hr; exact hr
theorem Rj (h : Rh c1 c2) {n : Nat} {rs : List ResultVar} {c : Code} {args : List Value} {H : AH} {r : Value × AH} (hr : mF P G c1 n rs c args H = some r) : mF P G c2 n rs c args H = some r := by
 unfold mF at hr ⊢
 obtain ⟨s, hs, hr⟩ := Option.bind_eq_some_iff.1 hr
 rw [lk h _ hs]
 exact hr
theorem NM (h : Rh c1 c2) {n : Nat} {rs : List ResultVar} {s : DSh} {args : List Value} {H : AH} {r : Value × AH} (hr : lS P G c1 n rs s args H = some r) : lS P G c2 n rs s args H = some r := by
 unfold lS at hr ⊢
 obtain ⟨⟨e1, A1, H1⟩, h1, hr⟩ := Option.bind_eq_some_iff.1 hr
 rw [lk h _ h1]
 simp only [Option.bind_some]
 cases e1 with
 | exit i => exact hr
 | ret => exact hr
 | normal =>
  simp only at hr ⊢
  split at hr
  ·cases hr
  rename_i hlt
  rw [if_neg hlt]
  obtain ⟨q, h2, hr⟩ := Option.bind_eq_some_iff.1 hr
  obtain ⟨z, h3, hr⟩ := Option.bind_eq_some_iff.1 hr
  rw [wB h h2]
  simp only [Option.bind_some]
  rw [oL h _ h3]
  exact hr
theorem Hh : ∀ d, Rh (dI P G d) (dI P G (d + 1)) := by
 intro d
 induction d with
 | zero => intro f args H r h; cases h
 | succ d ih =>
  intro f args H r h
  rw [dI] at h ⊢
  simp only [] at h ⊢
  cases hf : P.funcs[f]? with
  | none => rw [hf] at h; cases h
  | some fn =>
   rw [hf] at h
   simp only at h ⊢
   split at h
   ·cases h
   ·rename_i hn
    rw [if_neg hn]
    cases hb : fn.body with
    | none => rw [hb] at h; cases h
    | some c =>
     rw [hb] at h
     simp only at h ⊢
     cases hd : iU c with
     | none => rw [hd] at h; exact Rj ih h
     | some s =>
      rw [hd] at h
      obtain ⟨h1, h2⟩ := lm h
      simp only
      rw [iG h1]
      exact NM ih h2
theorem iE {d e : Nat} (h : d ≤ e) : Rh (dI P G d) (dI P G e) := by
 induction e with
 | zero => rw [show d = 0 from by omega]; exact fun _ _ _ _ h => h
 | succ e ih =>
  by_cases hd : d = e + 1
  ·rw [hd]; exact fun _ _ _ _ h => h
  ·exact fun f args H r hr => Hh e f args H r (ih (by omega) f args H r hr)
open Classical in
noncomputable def aF (P : Program) (G : List Nat) : be := fun f args H => if h : ∃ d r, dI P G d f args H = some r then some h.choose_spec.choose else none
theorem wx {f : Nat} {args : List Value} {H : AH} {r : Value × AH} : aF P G f args H = some r ↔ ∃ d, dI P G d f args H = some r := by
 unfold aF
 constructor
 ·intro h
  split at h
  ·rename_i hx
   cases h
   exact ⟨_, hx.choose_spec.choose_spec⟩
  ·cases h
 ·rintro ⟨n, hn⟩
  have hx : ∃ d r, dI P G d f args H = some r := ⟨n, r, hn⟩
  rw [dif_pos hx]
  have h1 := iE (Nat.le_max_right n hx.choose) _ _ _ _ hx.choose_spec.choose_spec
  have h2 := iE (Nat.le_max_left n hx.choose) _ _ _ _ hn
  rw [h2] at h1
  exact h1.symm
theorem aa1 (hm : P.follows .mixedOrders = true) : jz P G (aF P G) ∧ fq (aF P G) := by
 constructor
 ·intro f args H v H' h
  obtain ⟨d, hd⟩ := wx.1 h
  exact (wK hm d).1 f args H v H' hd
 ·intro f args H v H' h
  obtain ⟨d, hd⟩ := wx.1 h
  exact (wK hm d).2 f args H v H' hd
theorem WQ {ev : Operand → Value} {o : Oper} {H : AH} {r : Value × AH} (h : dj P (aF P G) ev o H = some r) : ∃ d, dj P (dI P G d) ev o H = some r := by
 obtain ⟨dst, op, type, pos, after, guard⟩ := o
 cases op with
 | call c =>
  obtain ⟨callee, args, ats⟩ := c
  cases callee with
  | value f =>
   simp only [dj] at h ⊢
   obtain ⟨x, hx, h⟩ := Option.bind_eq_some_iff.1 h
   obtain ⟨d, hd⟩ := wx.1 h
   exact ⟨d, by rw [hx]; exact hd⟩
  | invoke r m => exact ⟨0, h⟩
  | builtin b => exact ⟨0, h⟩
 | makeMap t r => cases r <;> exact ⟨0, h⟩
 | slice t x lo hi mx => cases lo <;> cases hi <;> cases mx <;> exact ⟨0, h⟩
 | _ => exact ⟨0, h⟩
theorem En {ops : Array Oper} : ∀ (l : List Oper) {A : List Value} {H : AH} {r : List Value × AH}, cp P G (aF P G) ops l A H = some r → ∃ d, cp P G (dI P G d) ops l A H = some r := by
 intro l
 induction l with
 | nil => intro A H r hr; exact ⟨0, hr⟩
 | cons o l ih =>
  intro A H r hr
  simp only [cp] at hr ⊢
  obtain ⟨s, hs, hr⟩ := Option.bind_eq_some_iff.1 hr
  obtain ⟨d2, h2⟩ := ih hr
  have h1 : ∃ d, eh P G (dI P G d) ops o A H = some s := by
   unfold eh at hs ⊢
   split at hs
   ·rename_i hok
    split at hs
    ·rename_i hw
     obtain ⟨x, hx, e⟩ := Option.map_eq_some_iff.1 hs
     obtain ⟨d, hd⟩ := WQ hx
     exact ⟨d, by rw [if_pos hok, if_pos hw, hd]; exact congrArg some e⟩
    ·rename_i hw
     exact ⟨0, by rw [if_pos hok, if_neg hw]; exact hs⟩
   ·cases hs
  obtain ⟨d1, h1⟩ := h1
  refine ⟨max d1 d2, ?_⟩
  rw [wB (iE (Nat.le_max_left ..)) h1]
  exact oL (iE (Nat.le_max_right ..)) _ h2
theorem KP (d : Nat) : Rh (dI P G d) (aF P G) := fun _ _ _ _ h => wx.2 ⟨d, h⟩
theorem Eo {ops : Array Oper} {draw : Bool} {A : List Value} {H : AH} {r : List Value × AH} (h : d7 P G (aF P G) ops draw A H = some r) : ∃ d, d7 P G (dI P G d) ops draw A H = some r := by
 cases draw with
 | false => exact En _ h
 | true =>
  simp only [d7] at h ⊢
  obtain ⟨h1, h2, h3⟩ := eg h
  obtain ⟨d, hd⟩ := En _ h3
  refine ⟨d, ?_⟩
  unfold ka
  rw [h1]
  simp only
  cases h4 : cO ops.toList with
  | nil => exact hd
  | cons p ps =>
   simp only
   rw [iG ?_]
   ·exact hd
   ·rw [← V4 (KP d) hd, ← h4]; exact h2
theorem NL : ∀ (c : Code) {A : List Value} {H : AH} {r : AR}, aK P G (aF P G) c A H = some r → ∃ d, aK P G (dI P G d) c A H = some r := by
 intro c
 induction c with
 | region id ops draw =>
  intro A H r hr
  simp only [aK] at hr ⊢
  obtain ⟨s, hs, e1⟩ := Option.map_eq_some_iff.1 hr
  obtain ⟨d, hd⟩ := Eo hs
  exact ⟨d, by rw [hd]; exact congrArg some e1⟩
 | seq x y ihx ihy =>
  intro A H r hr
  simp only [aK] at hr ⊢
  obtain ⟨s, hx, hr⟩ := Option.bind_eq_some_iff.1 hr
  obtain ⟨d1, h1⟩ := ihx hx
  split at hr
  ·rename_i e
   obtain ⟨d2, h2⟩ := ihy hr
   refine ⟨max d1 d2, ?_⟩
   rw [lk (iE (Nat.le_max_left ..)) _ h1]
   simp only [Option.bind_some, e]
   exact lk (iE (Nat.le_max_right ..)) _ h2
  ·refine ⟨d1, ?_⟩
   rw [h1]
   simp only [Option.bind_some]
   exact hr
 | cond c x y ihx ihy =>
  intro A H r hr
  simp only [aK] at hr ⊢
  split at hr
  ·exact ihx hr
  ·exact ihy hr
  ·cases hr
 | block id x ih =>
  intro A H r hr
  simp only [aK] at hr ⊢
  obtain ⟨s, hx, e2⟩ := Option.map_eq_some_iff.1 hr
  obtain ⟨d, hd⟩ := ih hx
  exact ⟨d, by rw [hd]; exact congrArg some e2⟩
 | loop x ih =>
  intro A H r hr
  simp only [aK] at hr ⊢
  obtain ⟨n, hn⟩ := cn.1 hr
  have key : ∃ d, du (aK P G (dI P G d) x) n A H = some r := by
   clear hr
   induction n generalizing A H with
   | zero => cases hn
   | succ n ihn =>
    simp only [du] at hn ⊢
    obtain ⟨s, hx, hr⟩ := Option.bind_eq_some_iff.1 hn
    obtain ⟨d1, h1⟩ := ih hx
    split at hr
    ·rename_i e
     obtain ⟨d2, h2⟩ := ihn hr
     refine ⟨max d1 d2, ?_⟩
     rw [lk (iE (Nat.le_max_left ..)) _ h1]
     simp only [Option.bind_some, e]
     have key2 : ∀ (n : Nat) {A : List Value} {H : AH} {r : AR}, du (aK P G (dI P G d2) x) n A H = some r → du (aK P G (dI P G (max d1 d2)) x) n A H = some r := by
      intro n
      induction n with
      | zero => intro A H r h; cases h
      | succ n ih2 =>
       intro A H r h
       simp only [du] at h ⊢
       obtain ⟨s, hx, hr⟩ := Option.bind_eq_some_iff.1 h
       rw [lk (iE (Nat.le_max_right d1 d2)) _ hx]
       simp only [Option.bind_some]
       split at hr
       ·exact ih2 hr
       ·exact hr
     exact key2 n h2
    ·refine ⟨d1, ?_⟩
     rw [h1]
     simp only [Option.bind_some]
     exact hr
  obtain ⟨d, hd⟩ := key
  exact ⟨d, cn.2 ⟨n, hd⟩⟩
 | _ => intro A H r hr; exact ⟨0, hr⟩
theorem aa0 {f : Nat} {fn : Func} {c : Code} (hf : P.funcs[f]? = some fn) (hb : fn.body = some c) (hn : fn.name ≠ "runtime.NumGoroutine") (hds : iU c = none) {args : List Value} {H : AH} {r : Value × AH}
 (h : mF P G (aF P G) fn.ntmps fn.results.toList c args H = some r) : aF P G f args H = some r := by
 unfold mF at h
 obtain ⟨s, hs, h⟩ := Option.bind_eq_some_iff.1 h
 obtain ⟨d, hd⟩ := NL _ hs
 refine wx.2 ⟨d + 1, ?_⟩
 simp only [dI, hf, hb, if_neg hn, hds, mF, hd, Option.bind_some]
 exact h
end
section
variable {R : Type}
abbrev tb {α β : Type} (x : Option α) (f : α → Option β) : Option β :=
 match x with
 | some a => f a
 | none => none
theorem GT {α β : Type} (x : Option α) (f : α → Option β) : tb x f = x.bind f := by cases x <;> rfl
abbrev eJ (P : Program) (b : Builtin) (argTypes : Array TypeId) (args : List Value) (H : AH) (k : Value → AH → Option R) : Option R :=
 match b, args with
 | .len, [x] => match (argTypes[0]?).bind fun t => P.underlying t with
  | some (.slice _) => match x with | .slice _ n _ => k (.int .i64 n) H | _ => none
  | some .string => match x with | .string s => k (.int .i64 s.size) H | _ => none
  | some (.map _ _) => (kF x H).bind fun v => k v H
  | _ => none
 | .max, args => (f3 args).bind fun v => k v H
 | .min, args => (gR args).bind fun v => k v H
 | .append, [s, x] => (argTypes[0]?).bind fun t => (bM P t).bind fun el => (bU P el).bind fun e => (dR P el).bind fun by' => (br P el).bind fun z =>
  if z.cells.size = e ∧ (argTypes[1]?).bind (fun u => bM P u) = some el then (dN e by' s x H).bind fun r => k r.1 r.2 else none
 | .delete, [m, key] => (argTypes[0]?).bind fun t => (bP P t).bind fun kt => (b6 P kt.1).bind fun fl => (kD fl m key H).bind fun H' => k (.tuple #[]) H'
 | _, _ => none
abbrev m7 (P : Program) (call : be) (ev : Operand → Value) (o : Oper) (H : AH) (k : Value → AH → Option R) : Option R :=
 match o.op with
 | .move x => k (ev x) H
 | .assign x => k (ev x) H
 | .pick c a b => (aS (ev c) (ev a) (ev b)).bind fun v => k v H
 | .alloc t => (br P t).bind fun z => k (.pointer (some ⟨H.size, 0, none⟩)) (H.push (.cells false z.cells.toList))
 | .box _ x => k (.pointer (some ⟨H.size, 0, none⟩)) (H.push (.cells false (ev x).cells.toList))
 | .build t parts => match P.underlying t with
  | some (.struct fs) => (br P t).bind fun z => (gI P fs.toList).bind fun ps => (cu (ps[·]?) z.cells.toList (parts.toList.map fun p => (p.1, ev p.2))).bind fun cs => k (.agg cs.toArray) H
  | some (.array _ el) => (br P t).bind fun z => (bU P el).bind fun e => (cu (fun i => some (i * e, e)) z.cells.toList (parts.toList.map fun p => (p.1, ev p.2))).bind fun cs => k (.agg cs.toArray) H
  | _ => none
 | .buildSlice t len parts => (bM P t).bind fun el => (bU P el).bind fun e => (br P el).bind fun z =>
  if 0 < e ∧ z.cells.size = e ∧ len * e ≤ 2 ^ 24 then
   (cu (fun i => some (i * e, e)) (List.replicate len z.cells.toList).flatten (parts.toList.map fun p => (p.1, ev p.2))).bind fun cs => k (.slice (some ⟨H.size, 0, none⟩) len e) (H.push (.cells false cs))
  else none
 | .load t a => (dJ P t).bind fun g => match g with
  | some n => (aA n (ev a) H).bind fun v => k v H
  | none => (ar (ev a) H).bind fun v => k v H
 | .store t a x => (bU P t).bind fun n => (cW n (ev a) (ev x) H).bind fun H' => k undef H'
 | .nilCheck x => (qA (ev x)).bind fun v => k v H
 | .binOp op t x y _ => (aj (um P t) op (ev x) (ev y)).bind fun v => k v H
 | .unOp op _ x => (pi op (ev x)).bind fun v => k v H
 | .convert src dst x => match P.underlying src with
  | some _ => (bz (nL P dst) (ev x)).bind fun v => k v H
  | none => none
 | .makeFunc fn first captured => k (.func fn (first.map ev) (captured.map ev)) H
 | .makeMap _ none => k (.map (some H.size)) (H.push (.map [] 0))
 | .makeSlice t l c => (bM P t).bind fun el => (bU P el).bind fun e => (dR P el).bind fun by' => (br P el).bind fun z => (kG z.cells.toList e by' (ev l) (ev c) H).bind fun r => k r.1 r.2
 | .slice t x lo hi none => (bM P t).bind fun el => (bU P el).bind fun e => (dD e (ev x) (lo.map ev) (hi.map ev)).bind fun v => k v H
 | .slice t x none (some hi) (some mx) => (bM P t).bind fun el => (bU P el).bind fun _ => (gH (ev x) (ev hi) (ev mx)).bind fun v => k v H
 | .fieldAddr s x f => (ix P s f).bind fun f => (bU P f.type).bind fun n => if n = 0 then none else (z0 f.offset (ev x)).bind fun v => k v H
 | .field s x f => (ix P s f).bind fun f => (dJ P f.type).bind fun n => (i5 n f.offset (ev x)).bind fun v => k v H
 | .indexAddr t x i => match P.underlying t with
  | some (.slice el) => (bU P el).bind fun e => (lM e (ev x) (ev i)).bind fun v => k v H
  | some (.array len el) => (bU P el).bind fun e => (gW len e (ev x) (ev i)).bind fun v => k v H
  | _ => none
 | .index t x i => match P.underlying t with
  | some (.array len el) => (bU P el).bind fun e => (dJ P el).bind fun n => (gG len n e (ev x) (ev i)).bind fun v => k v H
  | some .string => (gF (ev x) (ev i)).bind fun v => k v H
  | _ => none
 | .lookup t m key ok => (bP P t).bind fun kt => (b6 P kt.1).bind fun fl => (br P kt.2).bind fun z => (b7 fl z (ev m) (ev key) ok H).bind fun v => k v H
 | .mapUpdate t m key x => (bP P t).bind fun kt => (b6 P kt.1).bind fun fl => (dh fl (ev m) (ev key) (ev x) H).bind fun H' => k undef H'
 | .extract t i => (ai (ev t) i).bind fun v => k v H
 | .call c => match c.callee with
  | .builtin b => eJ P b c.argTypes (c.args.toList.map ev) H k
  | .value f => (bN (ev f) (c.args.toList.map ev)).bind fun fa => (call fa.1 fa.2 H).bind fun r => k r.1 r.2
  | _ => none
 | _ => none
abbrev wJ (P : Program) (b : Builtin) (argTypes : Array TypeId) (args : List Value) (H : AH) (k : Value → AH → Option R) : Option R :=
 match b, args with
 | .len, [x] => match (argTypes[0]?).bind fun t => P.underlying t with
  | some (.slice _) => match x with | .slice _ n _ => k (.int .i64 n) H | _ => none
  | some .string => match x with | .string s => k (.int .i64 s.size) H | _ => none
  | some (.map _ _) => (kF x H).bind fun v => k v H
  | _ => none
 | .max, args => (f3 args).bind fun v => k v H
 | .min, args => (gR args).bind fun v => k v H
 | .append, [s, x] => tb (argTypes[0]?) fun t => tb (bM P t) fun el => tb (bU P el) fun e => tb (dR P el) fun by' => tb (br P el) fun z =>
  if z.cells.size = e ∧ (argTypes[1]?).bind (fun u => bM P u) = some el then (dN e by' s x H).bind fun r => k r.1 r.2 else none
 | .delete, [m, key] => tb (argTypes[0]?) fun t => tb (bP P t) fun kt => tb (b6 P kt.1) fun fl => (kD fl m key H).bind fun H' => k (.tuple #[]) H'
 | _, _ => none
abbrev Zo (P : Program) (call : be) (ev : Operand → Value) (o : Oper) (H : AH) (k : Value → AH → Option R) : Option R :=
 match o.op with
 | .move x => k (ev x) H
 | .assign x => k (ev x) H
 | .pick c a b => (aS (ev c) (ev a) (ev b)).bind fun v => k v H
 | .alloc t => tb (br P t) fun z => k (.pointer (some ⟨H.size, 0, none⟩)) (H.push (.cells false z.cells.toList))
 | .box _ x => k (.pointer (some ⟨H.size, 0, none⟩)) (H.push (.cells false (ev x).cells.toList))
 | .build t parts => match P.underlying t with
  | some (.struct fs) => tb (br P t) fun z => tb (gI P fs.toList) fun ps => (cu (ps[·]?) z.cells.toList (parts.toList.map fun p => (p.1, ev p.2))).bind fun cs => k (.agg cs.toArray) H
  | some (.array _ el) => tb (br P t) fun z => tb (bU P el) fun e => (cu (fun i => some (i * e, e)) z.cells.toList (parts.toList.map fun p => (p.1, ev p.2))).bind fun cs => k (.agg cs.toArray) H
  | _ => none
 | .buildSlice t len parts => tb (bM P t) fun el => tb (bU P el) fun e => tb (br P el) fun z =>
  if 0 < e ∧ z.cells.size = e ∧ len * e ≤ 2 ^ 24 then
   (cu (fun i => some (i * e, e)) (List.replicate len z.cells.toList).flatten (parts.toList.map fun p => (p.1, ev p.2))).bind fun cs => k (.slice (some ⟨H.size, 0, none⟩) len e) (H.push (.cells false cs))
  else none
 | .load t a => tb (dJ P t) fun g => match g with
  | some n => (aA n (ev a) H).bind fun v => k v H
  | none => (ar (ev a) H).bind fun v => k v H
 | .store t a x => tb (bU P t) fun n => (cW n (ev a) (ev x) H).bind fun H' => k undef H'
 | .nilCheck x => (qA (ev x)).bind fun v => k v H
 | .binOp op t x y _ => (aj (um P t) op (ev x) (ev y)).bind fun v => k v H
 | .unOp op _ x => (pi op (ev x)).bind fun v => k v H
 | .convert src dst x => match P.underlying src with
  | some _ => (bz (nL P dst) (ev x)).bind fun v => k v H
  | none => none
 | .makeFunc fn first captured => k (.func fn (first.map ev) (captured.map ev)) H
 | .makeMap _ none => k (.map (some H.size)) (H.push (.map [] 0))
 | .makeSlice t l c => tb (bM P t) fun el => tb (bU P el) fun e => tb (dR P el) fun by' => tb (br P el) fun z => (kG z.cells.toList e by' (ev l) (ev c) H).bind fun r => k r.1 r.2
 | .slice t x lo hi none => tb (bM P t) fun el => tb (bU P el) fun e => (dD e (ev x) (lo.map ev) (hi.map ev)).bind fun v => k v H
 | .slice t x none (some hi) (some mx) => tb (bM P t) fun el => tb (bU P el) fun _ => (gH (ev x) (ev hi) (ev mx)).bind fun v => k v H
 | .fieldAddr s x f => tb (ix P s f) fun f => tb (bU P f.type) fun n => if n = 0 then none else (z0 f.offset (ev x)).bind fun v => k v H
 | .field s x f => tb (ix P s f) fun f => tb (dJ P f.type) fun n => (i5 n f.offset (ev x)).bind fun v => k v H
 | .indexAddr t x i => match P.underlying t with
  | some (.slice el) => tb (bU P el) fun e => (lM e (ev x) (ev i)).bind fun v => k v H
  | some (.array len el) => tb (bU P el) fun e => (gW len e (ev x) (ev i)).bind fun v => k v H
  | _ => none
 | .index t x i => match P.underlying t with
  | some (.array len el) => tb (bU P el) fun e => tb (dJ P el) fun n => (gG len n e (ev x) (ev i)).bind fun v => k v H
  | some .string => (gF (ev x) (ev i)).bind fun v => k v H
  | _ => none
 | .lookup t m key ok => tb (bP P t) fun kt => tb (b6 P kt.1) fun fl => tb (br P kt.2) fun z => (b7 fl z (ev m) (ev key) ok H).bind fun v => k v H
 | .mapUpdate t m key x => tb (bP P t) fun kt => tb (b6 P kt.1) fun fl => (dh fl (ev m) (ev key) (ev x) H).bind fun H' => k undef H'
 | .extract t i => (ai (ev t) i).bind fun v => k v H
 | .call c => match c.callee with
  | .builtin b => wJ P b c.argTypes (c.args.toList.map ev) H k
  | .value f => (bN (ev f) (c.args.toList.map ev)).bind fun fa => (call fa.1 fa.2 H).bind fun r => k r.1 r.2
  | _ => none
 | _ => none
theorem eu {α β γ : Type} (x : Option α) (b : β) (k : α → β → Option γ) : ((x.map (·, b)).bind fun r => k r.1 r.2) = x.bind fun v => k v b := by cases x <;> rfl
theorem tH {β γ : Type} (x : Option β) (v : Value) (k : Value → β → Option γ) : ((x.map fun H' => (v, H')).bind fun r => k r.1 r.2) = x.bind fun H' => k v H' := by cases x <;> rfl
theorem BJ (P : Program) (b : Builtin) (ts : Array TypeId) (args : List Value) (H : AH) (k : Value → AH → Option R) : eJ P b ts args H k = (b5 P b ts args H).bind fun r => k r.1 r.2 := by
 cases b with
 | len =>
  match args with
  | [] => rfl
  | [x] =>
   simp only [eJ, b5]
   cases (ts[0]?).bind fun t => P.underlying t with
   | none => rfl
   | some d => cases d <;> first | rfl | (cases x <;> rfl) | (simp only [eu])
  | x :: y :: zs => rfl
 | max => simp only [eJ, b5, eu]
 | min => simp only [eJ, b5, eu]
 | append =>
  match args with
  | [] => rfl
  | [x] => rfl
  | [s, x] =>
   simp only [eJ, b5, Option.bind_assoc]
   congr 1; funext t; congr 1; funext el; congr 1; funext e; congr 1; funext b; congr 1; funext z
   split
   ·rfl
   ·rfl
  | x :: y :: z :: zs => rfl
 | delete =>
  match args with
  | [] => rfl
  | [x] => rfl
  | [s, x] => simp only [eJ, b5, Option.bind_assoc, tH]
  | x :: y :: z :: zs => rfl
 | _ => rfl
theorem WW (P : Program) (call : be) (ev : Operand → Value) (o : Oper) (H : AH) (k : Value → AH → Option R) : m7 P call ev o H k = (dj P call ev o H).bind fun r => k r.1 r.2 := by
 obtain ⟨dst, op, type, pos, after, guard⟩ := o
 cases op with
 | call c =>
  obtain ⟨callee, args, ats⟩ := c
  cases callee with
  | value f => simp only [m7, dj, Option.bind_assoc]
  | invoke r m => rfl
  | builtin b => simp only [m7, dj]; exact BJ ..
 | makeMap t r => cases r <;> rfl
 | slice t x lo hi mx =>
  cases mx with
  | none => simp only [m7, dj, Option.bind_assoc, eu]
  | some m => cases lo <;> cases hi <;> first | rfl | (simp only [m7, dj, Option.bind_assoc, eu])
 | load t a =>
  simp only [m7, dj, Option.bind_assoc]
  congr 1
  funext g
  cases g <;> simp only [eu]
 | build t parts =>
  simp only [m7, dj]
  cases P.underlying t with
  | none => rfl
  | some d => cases d <;> first | rfl | (simp only [Option.bind_assoc, Option.bind_map]; rfl)
 | buildSlice t len parts =>
  simp only [m7, dj, Option.bind_assoc]
  congr 1; funext el; congr 1; funext e; congr 1; funext z
  split
  ·rw [Option.bind_map]; rfl
  ·rfl
 | fieldAddr s x f =>
  simp only [m7, dj, Option.bind_assoc]
  congr 1; funext el; congr 1; funext e
  split
  ·rfl
  ·rw [eu]
 | alloc t => simp only [m7, dj, Option.bind_map]; rfl
 | indexAddr t x i =>
  simp only [m7, dj]
  cases P.underlying t with
  | none => rfl
  | some d => cases d <;> first | rfl | (simp only [Option.bind_assoc, eu])
 | index t x i =>
  simp only [m7, dj]
  cases P.underlying t with
  | none => rfl
  | some d => cases d <;> first | rfl | (simp only [Option.bind_assoc, eu])
 | convert s d x =>
  simp only [m7, dj]
  cases P.underlying s with
  | none => rfl
  | some d => simp only [eu]
 | store t x y => simp only [m7, dj, Option.bind_assoc, tH]
 | mapUpdate t m key x => simp only [m7, dj, Option.bind_assoc, tH]
 | _ => first | rfl | (simp only [m7, dj, Option.bind_assoc, eu]; done)
theorem Ht (P : Program) (b : Builtin) (ts : Array TypeId) (args : List Value) (H : AH) (k : Value → AH → Option R) : wJ P b ts args H k = eJ P b ts args H k := by
 unfold wJ eJ
 simp only [GT]
theorem aa5 (P : Program) (call : be) (ev : Operand → Value) (o : Oper) (H : AH) (k : Value → AH → Option R) : Zo P call ev o H k = m7 P call ev o H k := by
 unfold Zo m7
 simp only [GT, Ht]
theorem Rz (P : Program) (call : be) (ev : Operand → Value) (o : Oper) (H : AH) (k : Value → AH → Option R) : Zo P call ev o H k = (dj P call ev o H).bind fun r => k r.1 r.2 := (aa5 ..).trans (WW ..)
def C2 (op : Op) : Bool := iS op == 0 || iS op == 2
theorem Py {P : Program} {call : be} {ev : Operand → Value} {o : Oper} {H : AH} (h : C2 o.op = true) : dj P call ev o H = (Zo P call ev o H fun v _ => some v).map (·, H) := by
 rw [Rz]
 cases hx : dj P call ev o H with
 | none => rfl
 | some r =>
  obtain ⟨v, H'⟩ := r
  simp only [Option.bind_some, Option.map_some]
  unfold C2 at h
  simp only [Bool.or_eq_true, beq_iff_eq] at h
  rcases h with h | h
  ·rw [(q6 h hx).1]
  ·rw [wz h] at hx
   obtain ⟨y, _, e⟩ := Option.map_eq_some_iff.1 hx
   rw [(Prod.mk.inj e).2]
abbrev KW (P : Program) (G : List Nat) (call : be) (ops : Array Oper) (o : Oper) (A : List Value) (H : AH) (k : List Value → AH → Option R) : Option R :=
 match o.op.operands.toList.all (Hb G) with
 | true => match o.guard with
  | none => Zo P call (dK A) o H fun v H' => k (i7 A o.dst v) H'
  | some g => match C2 o.op with
   | true => (match cK ops A g.1 == some g.2 with
    | true => Zo P call (dK A) o H fun v _ => some v
    | false => some undef).bind fun v => k (i7 A o.dst v) H
   | false => (match cK ops A g.1 == some g.2 with
    | true => dj P call (dK A) o H
    | false => some (undef, H)).bind fun r => k (i7 A o.dst r.1) r.2
 | false => none
theorem Ex (P : Program) (G : List Nat) (call : be) (ops : Array Oper) (o : Oper) (A : List Value) (H : AH) (k : List Value → AH → Option R) : KW P G call ops o A H k = (eh P G call ops o A H).bind fun s => k s.1 s.2 := by
 unfold KW eh
 cases o.op.operands.toList.all (Hb G) with
 | false => rfl
 | true =>
  simp only [if_true]
  unfold Region.wanted
  cases o.guard with
  | none =>
   simp only [if_true]
   rw [Rz, Option.bind_map]; rfl
  | some g =>
   obtain ⟨g, want⟩ := g
   simp only
   cases hl : C2 o.op with
   | true =>
    simp only
    by_cases h : (cK ops A g == some want) = true
    ·rw [if_pos h, h, Py hl]
     simp only
     cases (Zo P call (dK A) o H fun v _ => some v) <;> rfl
    ·rw [if_neg h, Bool.eq_false_iff.2 h]; rfl
   | false =>
    simp only
    by_cases h : (cK ops A g == some want) = true
    ·rw [if_pos h, h, Option.bind_map]; rfl
    ·rw [if_neg h, Bool.eq_false_iff.2 h]; rfl
abbrev RA (P : Program) (G : List Nat) (call : be) (ops : Array Oper) : List Oper → List Value → AH → (List Value → AH → Option R) → Option R
 | [], A, H, k => k A H
 | o :: rest, A, H, k => KW P G call ops o A H fun A' H' => RA P G call ops rest A' H' k
theorem KV (P : Program) (G : List Nat) (call : be) (ops : Array Oper) : ∀ (l : List Oper) (A : List Value) (H : AH) (k : List Value → AH → Option R), RA P G call ops l A H k = (cp P G call ops l A H).bind fun s => k s.1 s.2 := by
 intro l
 induction l with
 | nil => intro A H k; rfl
 | cons o l ih =>
  intro A H k
  simp only [RA, cp]
  rw [Ex, Option.bind_assoc]
  congr 1
  funext s
  exact ih _ _ _
noncomputable def bE {R : Type} (x y : Option Value) (k : Option R) : Option R := Ey (x = y) k
theorem Zv {R : Type} {x y : Option Value} (h : x = y) (k : Option R) : bE x y k = k := iG h k
noncomputable abbrev N0 {R : Type} (j : Nat) (hist : List ((AH → Option Value) × AH)) (rd : AH → Option Value) (H H' : AH) (k : Option R) : List (Nat × Nat) → Option R
 | [] => k
 | pq :: rest => match pq.1 == j with
  | true => match Nat.blt pq.2 j with
   | true => match hist[pq.2]? with
    | some h => bE (rd h.2) (rd H) (N0 j hist rd H H' k rest)
    | none => none
   | false => N0 j hist rd H H' k rest
  | false => match pq.2 == j with
   | true => match Nat.blt pq.1 j with
    | true => match hist[pq.1]? with
     | some h => bE (h.1 H') (h.1 h.2) (N0 j hist rd H H' k rest)
     | none => none
    | false => N0 j hist rd H H' k rest
   | false => N0 j hist rd H H' k rest
theorem Ez {α β : Type} (p : Prop) (x : Option α) (k : α → Option β) : (Ey p x).bind k = Ey p (x.bind k) := by unfold Ey; split <;> rfl
theorem RF {α β : Type} {j : Nat} {hist : List ((AH → Option Value) × AH)} {rd : AH → Option Value} {H H' : AH} (x : Option α) (k : α → Option β) : ∀ l, (N0 j hist rd H H' x l).bind k = N0 j hist rd H H' (x.bind k) l := by
 intro l
 induction l with
 | nil => rfl
 | cons p l ih =>
  simp only [N0]
  cases p.1 == j with
  | true =>
   cases Nat.blt p.2 j with
   | true =>
    simp only
    cases hist[p.2]? with
    | none => rfl
    | some h => simp only [bE]; rw [Ez, ih]
   | false => exact ih
  | false =>
   cases p.2 == j with
   | true =>
    cases Nat.blt p.1 j with
    | true =>
     simp only
     cases hist[p.1]? with
     | none => rfl
     | some h => simp only [bE]; rw [Ez, ih]
    | false => exact ih
   | false => exact ih
def Ra (j : Nat) (hist : List ((AH → Option Value) × AH)) (rd : AH → Option Value) (H H' : AH) (p : Nat × Nat) : Prop :=
 (p.1 = j → p.2 < j → ∃ h, hist[p.2]? = some h ∧ rd h.2 = rd H) ∧ (p.2 = j → p.1 < j → ∃ h, hist[p.1]? = some h ∧ h.1 H' = h.1 h.2)
theorem KZ {α : Type} {p : Prop} {x : Option α} {r : α} : Ey p x = some r ↔ p ∧ x = some r := ⟨lm, fun h => by rw [iG h.1]; exact h.2⟩
theorem K5 {α : Type} {j : Nat} {hist : List ((AH → Option Value) × AH)} {rd : AH → Option Value} {H H' : AH} {x : Option α} {r : α} : ∀ {l}, N0 j hist rd H H' x l = some r ↔ (∀ p ∈ l, Ra j hist rd H H' p) ∧ x = some r := by
 intro l
 induction l with
 | nil => simp [N0]
 | cons p l ih =>
  have split : (∀ q ∈ p :: l, Ra j hist rd H H' q) ↔ Ra j hist rd H H' p ∧ ∀ q ∈ l, Ra j hist rd H H' q := by simp
  rw [split, and_assoc, ← ih]
  simp only [N0]
  by_cases h1 : p.1 = j
  ·have e1 : (p.1 == j) = true := by simpa using h1
   rw [e1]
   simp only
   by_cases h2 : p.2 < j
   ·have e2 : Nat.blt p.2 j = true := by simpa [Nat.blt_eq] using h2
    rw [e2]
    simp only
    have hn : ¬ p.2 = j := by omega
    unfold Ra
    cases hist[p.2]? with
    | none => simp [h1, h2]
    | some h => simp only [bE]; rw [KZ]; simp [h1, h2, hn]
   ·have e2 : Nat.blt p.2 j = false := by rw [Bool.eq_false_iff]; intro h; exact h2 (by simpa [Nat.blt_eq] using h)
    rw [e2]
    simp only
    have : Ra j hist rd H H' p := ⟨fun _ h => absurd h h2, fun _ h => absurd h (by omega)⟩
    simp [this]
  ·have e1 : (p.1 == j) = false := by simpa using h1
   rw [e1]
   simp only
   by_cases h2 : p.2 = j
   ·have e2 : (p.2 == j) = true := by simpa using h2
    rw [e2]
    simp only
    by_cases h3 : p.1 < j
    ·have e3 : Nat.blt p.1 j = true := by simpa [Nat.blt_eq] using h3
     rw [e3]
     simp only
     unfold Ra
     cases hist[p.1]? with
     | none => simp [h1, h2, h3]
     | some h => simp only [bE]; rw [KZ]; simp [h1, h2, h3]
    ·have e3 : Nat.blt p.1 j = false := by rw [Bool.eq_false_iff]; intro h; exact h3 (by simpa [Nat.blt_eq] using h)
     rw [e3]
     simp only
     have : Ra j hist rd H H' p := ⟨fun h => absurd h h1, fun _ h => absurd h h3⟩
     simp [this]
   ·have e2 : (p.2 == j) = false := by simpa using h2
    rw [e2]
    simp only
    have : Ra j hist rd H H' p := ⟨fun h => absurd h h1, fun h => absurd h h2⟩
    simp [this]
abbrev DF (P : Program) (A : List Value) (o : Oper) : AH → Option Value := fun H => wA P (dK A) o.op H
noncomputable def nj (P : Program) (G : List Nat) (call : be) (ops : Array Oper) (pairs : List (Nat × Nat)) : List Oper → Nat → List ((AH → Option Value) × AH) → List Value → AH → Option (List Value × AH)
 | [], _, _, A, H => some (A, H)
 | o :: rest, j, hist, A, H => (eh P G call ops o A H).bind fun s => N0 j hist (DF P A o) H s.2 (nj P G call ops pairs rest (j + 1) (hist ++ [(DF P A o, H)]) s.1 s.2) pairs
noncomputable abbrev KU (P : Program) (G : List Nat) (call : be) (ops : Array Oper) (pairs : List (Nat × Nat)) : List Oper → Nat → List ((AH → Option Value) × AH) → List Value → AH → (List Value → AH → Option R) → Option R
 | [], _, _, A, H, k => k A H
 | o :: rest, j, hist, A, H, k => KW P G call ops o A H fun A' H' => N0 j hist (DF P A o) H H' (KU P G call ops pairs rest (j + 1) (hist ++ [(DF P A o, H)]) A' H' k) pairs
theorem RB (P : Program) (G : List Nat) (call : be) (ops : Array Oper) (pairs : List (Nat × Nat)) : ∀ (l : List Oper) (j : Nat) (hist : List ((AH → Option Value) × AH)) (A : List Value) (H : AH) (k : List Value → AH → Option R), KU P G call ops pairs l j hist A H k = (nj P G call ops pairs l j hist A H).bind fun s => k s.1 s.2 := by
 intro l
 induction l with
 | nil => intro j hist A H k; rfl
 | cons o l ih =>
  intro j hist A H k
  simp only [KU, nj]
  rw [Ex, Option.bind_assoc]
  congr 1
  funext s
  rw [RF, ih]
theorem NP {P : Program} {G : List Nat} {call : be} {ops : Array Oper} {pairs : List (Nat × Nat)} {A0 : List Value} {H0 : AH} {r0 : List Value × AH} (h0 : cp P G call ops ops.toList A0 H0 = some r0) (hp : ∀ p ∈ pairs, p.1 < ops.size ∧ p.2 < ops.size ∧ p.1 ≠ p.2) :
 ∀ (l : List Oper) (j : Nat) (hist : List ((AH → Option Value) × AH)), ops.toList.drop j = l → hist.length = j → (∀ i, i < j → ∃ o, ops[i]? = some o ∧ hist[i]? = some (DF P (gY P G call ops A0 H0 i).1 o, (gY P G call ops A0 H0 i).2)) →
  ∀ r, nj P G call ops pairs l j hist (gY P G call ops A0 H0 j).1 (gY P G call ops A0 H0 j).2 = some r ↔ (∀ p ∈ pairs, j ≤ max p.1 p.2 → hJ P (gY P G call ops A0 H0) ops p) ∧ r = r0 := by
 intro l
 induction l with
 | nil =>
  intro j hist hl hlen hh r
  have hj : ops.size ≤ j := by
   have := congrArg List.length hl
   simp at this; omega
  have hst : gY P G call ops A0 H0 j = r0 := by
   unfold gY
   rw [List.take_of_length_le (by simpa using hj), h0]; rfl
  simp only [nj, hst]
  constructor
  ·intro e
   exact ⟨fun p hpm hm => absurd (hp p hpm) (by omega), (Option.some.inj e).symm⟩
  ·rintro ⟨_, rfl⟩; rfl
 | cons o l ih =>
  intro j hist hl hlen hh r
  have hj : ops.toList[j]? = some o := by
   have := congrArg (·[0]?) hl
   simpa using this
  have ho : ops[j]? = some o := by simpa using hj
  have hjs : j < ops.size := by
   have := (List.getElem?_eq_some_iff.1 hj).1
   simpa using this
  have hstep := GJ h0 ho
  have hl' : ops.toList.drop (j + 1) = l := by
   have := congrArg (List.drop 1) hl
   simpa [List.drop_drop, Nat.add_comm] using this
  have hh' : ∀ i, i < j + 1 → ∃ o', ops[i]? = some o' ∧ (hist ++ [(DF P (gY P G call ops A0 H0 j).1 o, (gY P G call ops A0 H0 j).2)])[i]? = some (DF P (gY P G call ops A0 H0 i).1 o', (gY P G call ops A0 H0 i).2) := by
   intro i hi
   by_cases e : i = j
   ·subst e
    exact ⟨o, ho, by rw [List.getElem?_append_right (by omega)]; simp [hlen]⟩
   ·obtain ⟨o', h1, h2⟩ := hh i (by omega)
    exact ⟨o', h1, by rw [List.getElem?_append_left (by omega)]; exact h2⟩
  have hi := ih (j + 1) _ hl' (by simp [hlen]) hh' r
  simp only [nj]
  rw [hstep]
  simp only [Option.bind_some]
  rw [K5, hi]
  have key : ∀ p ∈ pairs, max p.1 p.2 = j → (Ra j hist (DF P (gY P G call ops A0 H0 j).1 o) (gY P G call ops A0 H0 j).2 (gY P G call ops A0 H0 (j + 1)).2 p ↔ hJ P (gY P G call ops A0 H0) ops p) := by
   intro p hpm hm
   obtain ⟨h1, h2, h3⟩ := hp p hpm
   unfold Ra hJ
   by_cases hlt : p.2 < p.1
   ·have e1 : p.1 = j := by omega
    obtain ⟨o2, _, hg⟩ := hh p.2 (by omega)
    rw [if_pos hlt]
    constructor
    ·intro ⟨a, _⟩ o' ho'
     rw [e1, ho] at ho'
     cases ho'
     obtain ⟨h, hg', e⟩ := a e1 (by omega)
     rw [hg] at hg'
     cases hg'
     rw [e1]
     exact e
    ·intro a
     refine ⟨fun _ _ => ⟨_, hg, ?_⟩, fun e => absurd e (by omega)⟩
     have := a o (by rw [e1]; exact ho)
     rw [e1] at this
     exact this
   ·have e2 : p.2 = j := by omega
    obtain ⟨o1, ho1, hg⟩ := hh p.1 (by omega)
    rw [if_neg hlt, e2]
    constructor
    ·intro ⟨_, a⟩ o' ho'
     rw [ho1] at ho'
     cases ho'
     obtain ⟨h, hg', e⟩ := a rfl (by omega)
     rw [hg] at hg'
     cases hg'
     exact e
    ·intro a
     refine ⟨fun e => absurd e (by omega), fun _ _ => ⟨_, hg, a o1 ho1⟩⟩
  have out : ∀ p ∈ pairs, max p.1 p.2 ≠ j → Ra j hist (DF P (gY P G call ops A0 H0 j).1 o) (gY P G call ops A0 H0 j).2 (gY P G call ops A0 H0 (j + 1)).2 p := by
   intro p hpm hm
   exact ⟨fun h1 h2 => absurd hm (by omega), fun h1 h2 => absurd hm (by omega)⟩
  constructor
  ·rintro ⟨a, b, c⟩
   refine ⟨fun p hpm hm => ?_, c⟩
   by_cases e : max p.1 p.2 = j
   ·exact (key p hpm e).1 (a p hpm)
   ·exact b p hpm (by omega)
  ·rintro ⟨a, c⟩
   refine ⟨fun p hpm => ?_, fun p hpm hm => a p hpm (by omega), c⟩
   by_cases e : max p.1 p.2 = j
   ·exact (key p hpm e).2 (a p hpm (by omega))
   ·exact out p hpm e
theorem Hj {P : Program} {G : List Nat} {call : be} {ops : Array Oper} {pairs : List (Nat × Nat)} : ∀ (l : List Oper) (j : Nat) (hist : List ((AH → Option Value) × AH)) (A : List Value) (H : AH) (r : List Value × AH), nj P G call ops pairs l j hist A H = some r → cp P G call ops l A H = some r := by
 intro l
 induction l with
 | nil => intro j hist A H r h; exact h
 | cons o l ih =>
  intro j hist A H r h
  simp only [nj] at h
  obtain ⟨s, hs, h⟩ := Option.bind_eq_some_iff.1 h
  simp only [cp]
  rw [hs]
  exact ih _ _ _ _ _ (K5.1 h).2
theorem C4 {ops : Array Oper} : ∀ p ∈ cO ops.toList, p.1 < ops.size ∧ p.2 < ops.size ∧ p.1 ≠ p.2 := by
 intro p hp
 unfold cO at hp
 simp only [List.mem_flatMap, List.mem_filter, List.mem_map] at hp
 obtain ⟨x, ⟨hx, hx2⟩, y, ⟨hy, hy2⟩, rfl⟩ := hp
 have hx := List.mem_zipIdx hx
 have hy := List.mem_zipIdx hy
 simp only [beq_iff_eq] at hx2
 simp only [Bool.and_eq_true, beq_iff_eq] at hy2
 refine ⟨by have := hx.2.1; simpa using this, by have := hy.2.1; simpa using this, ?_⟩
 intro e
 simp only at e
 have e3 := hy2.1.1
 have ex := hx.2.2
 have ey := hy.2.2
 simp only [e, Nat.sub_zero] at ex ey
 have : x.1 = y.1 := by rw [ex, ey]
 rw [this, e3] at hx2
 cases hx2
theorem Hv {P : Program} {G : List Nat} {call : be} {ops : Array Oper} {pairs : List (Nat × Nat)} (hp : ∀ p ∈ pairs, p.1 < ops.size ∧ p.2 < ops.size ∧ p.1 ≠ p.2) (A : List Value) (H : AH) :
 Ey (∀ q ∈ pairs, hJ P (gY P G call ops A H) ops q) (cp P G call ops ops.toList A H) = nj P G call ops pairs ops.toList 0 [] A H := by
 cases hx : cp P G call ops ops.toList A H with
 | none =>
  cases hy : nj P G call ops pairs ops.toList 0 [] A H with
  | none => unfold Ey; split <;> rfl
  | some r => have := Hj _ _ _ _ _ _ hy; rw [hx] at this; cases this
 | some r0 =>
  have hi := NP hx hp ops.toList 0 [] rfl rfl (fun i hi => absurd hi (by omega))
  simp only [V5] at hi
  cases hy : nj P G call ops pairs ops.toList 0 [] A H with
  | none =>
   cases hz : Ey (∀ q ∈ pairs, hJ P (gY P G call ops A H) ops q) (some r0) with
   | none => rfl
   | some r =>
    obtain ⟨h1, h2⟩ := lm hz
    have := (hi r0).2 ⟨fun p hpm _ => h1 p hpm, rfl⟩
    rw [hy] at this; cases this
  | some r =>
   obtain ⟨h1, h2⟩ := (hi r).1 hy
   rw [iG (fun p hpm => h1 p hpm (by omega)), h2]
noncomputable abbrev BK (P : Program) (G : List Nat) (call : be) (ops : Array Oper) (draw : Bool) (A : List Value) (H : AH) (k : List Value → AH → Option R) : Option R :=
 match draw with
 | false => RA P G call ops ops.toList A H k
 | true => match pW ops.toList with
  | false => none
  | true => match cO ops.toList with
   | [] => RA P G call ops ops.toList A H k
   | p :: ps => KU P G call ops (p :: ps) ops.toList 0 [] A H k
theorem Hu (P : Program) (G : List Nat) (call : be) (ops : Array Oper) (draw : Bool) (A : List Value) (H : AH) (k : List Value → AH → Option R) : BK P G call ops draw A H k = (d7 P G call ops draw A H).bind fun s => k s.1 s.2 := by
 unfold BK d7 ka
 cases draw with
 | false => exact KV ..
 | true =>
  simp only
  cases pW ops.toList with
  | false => rfl
  | true =>
   simp only
   cases hl : cO ops.toList with
   | nil => exact KV ..
   | cons p ps =>
    simp only
    rw [Hv (fun q hq => C4 q (by rw [hl]; exact hq)), RB]
def W2 (kn : List Value → AH → Option R) (kx : Nat → List Value → AH → Option R) (kr : List Value → AH → Option R) (r : AR) : Option R :=
 match r.1 with
 | .normal => kn r.2.1 r.2.2
 | .exit i => kx i r.2.1 r.2.2
 | .ret => kr r.2.1 r.2.2
noncomputable def gm (P : Program) (G : List Nat) (call : be) (x : Code) (A : List Value) (H : AH) (kx : Nat → List Value → AH → Option R) (kr : List Value → AH → Option R) : Option R :=
 (mG (aK P G call x) A H).bind (W2 (fun _ _ => none) kx kr)
noncomputable abbrev aW (P : Program) (G : List Nat) (call : be) : Code → List Value → AH → (List Value → AH → Option R) → (Nat → List Value → AH → Option R) → (List Value → AH → Option R) → Option R
 | .skip, A, H, kn, _, _ => kn A H
 | .label _, A, H, kn, _, _ => kn A H
 | .region _ ops draw, A, H, kn, _, _ => BK P G call ops draw A H kn
 | .seq x y, A, H, kn, kx, kr => aW P G call x A H (fun A H => aW P G call y A H kn kx kr) kx kr
 | .cond c x y, A, H, kn, kx, kr => match dK A c with
  | .bool true => aW P G call x A H kn kx kr
  | .bool false => aW P G call y A H kn kx kr
  | _ => none
 | .block id x, A, H, kn, kx, kr => aW P G call x A H kn (fun i A H => if i = id then kn A H else kx i A H) kr
 | .loop x, A, H, _, kx, kr => gm P G call x A H kx kr
 | .exit id, A, H, _, kx, _ => kx id A H
 | .ret, A, H, _, _, kr => kr A H
 | _, _, _, _, _, _ => none
theorem NN {f : List Value → AH → Option AR} : ∀ {n : Nat} {A : List Value} {H : AH} {r : AR}, du f n A H = some r → r.1 ≠ .normal := by
 intro n
 induction n with
 | zero => intro A H r h; cases h
 | succ n ih =>
  intro A H r h
  simp only [du] at h
  obtain ⟨s, hs, h⟩ := Option.bind_eq_some_iff.1 h
  split at h
  ·exact ih h
  ·rename_i e
   cases h
   exact fun he => e he
theorem NO {f : List Value → AH → Option AR} {A : List Value} {H : AH} {r : AR} (h : mG f A H = some r) : r.1 ≠ .normal := by
 obtain ⟨n, hn⟩ := cn.1 h
 exact NN hn
theorem ra (P : Program) (G : List Nat) (call : be) : ∀ (c : Code) (A : List Value) (H : AH) (kn : List Value → AH → Option R) (kx : Nat → List Value → AH → Option R) (kr : List Value → AH → Option R),
 aW P G call c A H kn kx kr = (aK P G call c A H).bind (W2 kn kx kr) := by
 intro c
 induction c with
 | skip => intros; rfl
 | label => intros; rfl
 | exit => intros; rfl
 | ret => intros; rfl
 | region id ops draw =>
  intro A H kn kx kr
  simp only [aW, aK]
  rw [Hu, Option.bind_map]; rfl
 | seq x y ihx ihy =>
  intro A H kn kx kr
  simp only [aW, aK]
  rw [ihx, Option.bind_assoc]
  congr 1
  funext r
  obtain ⟨e, A1, H1⟩ := r
  cases e with
  | normal => simp only [W2]; exact ihy ..
  | exit i => rfl
  | ret => rfl
 | cond c x y ihx ihy =>
  intro A H kn kx kr
  simp only [aW, aK]
  generalize dK A c = v
  cases v with
  | bool b => cases b <;> first | exact ihx .. | exact ihy ..
  | _ => rfl
 | block id x ih =>
  intro A H kn kx kr
  simp only [aW, aK]
  rw [ih, Option.bind_map]
  congr 1
  funext r
  obtain ⟨e, A1, H1⟩ := r
  cases e with
  | normal => rfl
  | exit i =>
   simp only [W2, Function.comp]
   split <;> rfl
  | ret => rfl
 | loop x ih =>
  intro A H kn kx kr
  simp only [aW, aK, gm]
  cases h : mG (aK P G call x) A H with
  | none => rfl
  | some r =>
   simp only [Option.bind_some]
   have := NO h
   obtain ⟨e, A1, H1⟩ := r
   cases e with
   | normal => exact absurd rfl this
   | exit i => rfl
   | ret => rfl
 | rangeFunc => intros; rfl
 | scope => intros; rfl
 | goto => intros; rfl
 | refuse => intros; rfl
theorem Rx (P : Program) (G : List Nat) (call : be) (x : Code) (A : List Value) (H : AH) (kx : Nat → List Value → AH → Option R) (kr : List Value → AH → Option R) :
 gm P G call x A H kx kr = aW P G call x A H (fun A H => gm P G call x A H kx kr) kx kr := by
 rw [ra]
 unfold gm
 rw [Rm, Option.bind_assoc]
 congr 1
 funext r
 obtain ⟨e, A1, H1⟩ := r
 cases e <;> rfl
abbrev pL (P : Program) (A : List Value) (H : AH) : List ResultVar → (List Value → Option R) → Option R
 | [], k => k []
 | .tmp t :: rs, k => pL P A H rs fun vs => k (A[t]?.getD undef :: vs)
 | .cell a t :: rs, k => tb (dJ P t) fun g => match g with
  | some n => (aA n (A[a]?.getD undef) H).bind fun v => pL P A H rs fun vs => k (v :: vs)
  | none => (ar (A[a]?.getD undef) H).bind fun v => pL P A H rs fun vs => k (v :: vs)
theorem Ry (P : Program) (A : List Value) (H : AH) : ∀ (rs : List ResultVar) (k : List Value → Option R), pL P A H rs k = (pK P A H rs).bind k := by
 intro rs
 induction rs with
 | nil => intro k; rfl
 | cons r rs ih =>
  intro k
  simp only [pK, Option.bind_assoc, Option.bind_some]
  cases r with
  | tmp t =>
   simp only [pL, i8, Option.bind_some]
   rw [ih]
  | cell a t =>
   simp only [pL, i8, Option.bind_assoc, GT]
   congr 1
   funext g
   cases g <;> (simp only; congr 1; funext v; rw [ih])
end
def tup : List Value → Value
 | [v] => v
 | vs => .tuple vs.toArray
abbrev ei (P : Program) (rs : List ResultVar) (A : List Value) (H : AH) : Option (Value × AH) := pL P A H rs fun vs => some (tup vs, H)
noncomputable def KS (P : Program) (G : List Nat) (call : be) (n : Nat) (rs : List ResultVar) (c : Code) (args : List Value) (H : AH) : Option (Value × AH) :=
 aW P G call c (args ++ List.replicate (n - args.length) undef) H (ei P rs) (fun _ _ _ => none) (ei P rs)
theorem KT (P : Program) (rs : List ResultVar) (A : List Value) (H : AH) : ei P rs A H = (gl P A H rs).map (·, H) := by
 unfold ei gl
 rw [Ry, Option.map_map]
 cases pK P A H rs with
 | none => rfl
 | some vs =>
  simp only [Option.bind_some, Option.map_some, Function.comp]
  congr 2
theorem Rw (P : Program) (G : List Nat) (call : be) (n : Nat) (rs : List ResultVar) (c : Code) (args : List Value) (H : AH) : KS P G call n rs c args H = mF P G call n rs c args H := by
 unfold KS mF
 rw [ra]
 congr 1
 funext r
 obtain ⟨e, A1, H1⟩ := r
 cases e with
 | normal => exact KT ..
 | exit i => rfl
 | ret => exact KT ..
def bJ (fn : Func) : Code := fn.body.getD .skip
theorem Hi {P : Program} {G : List Nat} {f : Nat} {fn : Func} (hf : P.funcs[f]? = some fn) (hb : fn.body.isSome = true) (hn : (fn.name == "runtime.NumGoroutine") = false) (hd : iU (bJ fn) = none) {args : List Value} {H : AH} {r : Value × AH}
 (h : KS P G (aF P G) fn.ntmps fn.results.toList (bJ fn) args H = some r) : aF P G f args H = some r := by
 cases hc : fn.body with
 | none => rw [hc] at hb; cases hb
 | some c =>
  rw [Rw] at h
  unfold bJ at h hd
  rw [hc] at h hd
  exact aa0 hf hc (by simpa using hn) hd h
def Code.sub : Code → List Nat → Code
 | c, [] => c
 | .seq x _, 0 :: p => Code.sub x p
 | .seq _ y, 1 :: p => Code.sub y p
 | .cond _ x _, 2 :: p => Code.sub x p
 | .cond _ _ y, 3 :: p => Code.sub y p
 | .block _ x, 4 :: p => Code.sub x p
 | .loop x, 5 :: p => Code.sub x p
 | _, _ => .skip
def yv : Value → Option Bool
 | .bool b => some b
 | _ => none
def aY {R : Type} (cs : List Value) (H : AH) (k : Value → AH → Option R) : Option R := k (.pointer (some ⟨H.size, 0, none⟩)) (H.push (.cells false cs))
def abM {R : Type} (len e : Nat) (cs : List Value) (H : AH) (k : Value → AH → Option R) : Option R := k (.slice (some ⟨H.size, 0, none⟩) len e) (H.push (.cells false cs))
def zW {R : Type} (H : AH) (k : Value → AH → Option R) : Option R := k (.map (some H.size)) (H.push (.map [] 0))
def iN {R : Type} (x : Value) (k : Value → Option R) : Option R :=
 match x with
 | .slice _ n _ => k (.int .i64 n)
 | _ => none
def XK (x : Value) : Option Value :=
 match x with
 | .slice _ _ _ => nc x
 | _ => none
def ax {R : Type} (c : Value) (x y : Option R) : Option R :=
 match c with
 | .bool true => x
 | .bool false => y
 | _ => none
def wa {α : Type} (y : Option Bool) (want : Bool) (a b : Option α) : Option α :=
 match y == some want with
 | true => a
 | false => b
theorem Vc (a b : Value) : aS (.bool true) a b = some a := rfl
theorem Dh (a b : Value) : aS (.bool false) a b = some b := rfl
abbrev vi (n : Int) : Value := .int .i64 n
abbrev vw (n : Int) : Value := .int .u64 n
abbrev vu (n : Nat) : Value := .int .u64 (n : Int)
abbrev vb (b : Bool) : Value := .bool b
inductive Stp where
 | n
 | f (k : Nat)
 | i (e : Nat) (v : Value)
 | a (len e : Nat) (v : Value)
def ad {R : Type} : List Stp → Value → (Value → Option R) → Option R
 | [], a, k => k a
 | .n :: p, a, k => (qA a).bind fun a => ad p a k
 | .f o :: p, a, k => (z0 o a).bind fun a => ad p a k
 | .i e v :: p, a, k => (lM e a v).bind fun a => ad p a k
 | .a len e v :: p, a, k => (gW len e a v).bind fun a => ad p a k
def ld {R : Type} (p : List Stp) (x : Value) (H : AH) (k : Value → Option R) : Option R := ad p x fun a => (ar a H).bind k
def ldN {R : Type} (n : Nat) (p : List Stp) (x : Value) (H : AH) (k : Value → Option R) : Option R := ad p x fun a => (aA n a H).bind k
def st {R : Type} (n : Nat) (p : List Stp) (x v : Value) (H : AH) (k : AH → Option R) : Option R := ad p x fun a => (cW n a v H).bind k
def gB (c : Value) (want : Bool) (e : Option Value) : Option Value := wa (yv c) want (e.bind some) (some undef)
def gV (c : Value) (want : Bool) (e : Value) : Option Value := wa (yv c) want (some e) (some undef)
def gE (c : Value) (want : Bool) (H : AH) (e : Option (Value × AH)) : Option (Value × AH) := wa (yv c) want e (some (undef, H))
def zU {R : Type} (c : Value) (want : Bool) : List Stp → Value → (Value → Option R) → Option R
 | [], a, k => k a
 | .n :: p, a, k => (gB c want (qA a)).bind fun a => zU c want p a k
 | .f o :: p, a, k => (gB c want (z0 o a)).bind fun a => zU c want p a k
 | .i e v :: p, a, k => (gB c want (lM e a v)).bind fun a => zU c want p a k
 | .a len e v :: p, a, k => (gB c want (gW len e a v)).bind fun a => zU c want p a k
def fp {R : Type} (c : Value) (want : Bool) (p : List Stp) (x : Value) (H : AH) (k : Value → Option R) : Option R := zU c want p x fun a => (gB c want (ar a H)).bind k
def kU {R : Type} (c : Value) (want : Bool) (n : Nat) (p : List Stp) (x : Value) (H : AH) (k : Value → Option R) : Option R := zU c want p x fun a => (gB c want (aA n a H)).bind k
def gk {R : Type} (ps : List (Nat × Nat)) (zero : List Value) (xs : List (Nat × Value)) (k : Value → Option R) : Option R := (cu (fun i => ps[i]?) zero xs).bind fun cs => k (.agg cs.toArray)
def XS (e : Nat) (i : Nat) : Option (Nat × Nat) := some (i * e, e)
def zY {R : Type} (len e : Nat) (zero : List Value) (xs : List (Nat × Value)) (H : AH) (k : Value → AH → Option R) : Option R := (cu (XS e) (List.replicate len zero).flatten xs).bind fun cs => abM len e cs H k
def gb (D : Nat) (A A' : List Value) : Prop := A.length = A'.length ∧ ∀ t, D.testBit t = false → A[t]? = A'[t]?
def g7 (D : Nat) : Nat → List Value → List Value
 | _, [] => []
 | i, v :: vs => (match D.testBit i with | true => undef | false => v) :: g7 D (i + 1) vs
def clear (D : Nat) (A : List Value) : List Value := g7 D 0 A
theorem tl (D : Nat) : ∀ (A : List Value) (i : Nat), (g7 D i A).length = A.length := by
 intro A
 induction A with
 | nil => intro i; rfl
 | cons v vs ih => intro i; simp [g7, ih]
theorem zL (D : Nat) : ∀ (A : List Value) (i t : Nat), D.testBit (i + t) = false → (g7 D i A)[t]? = A[t]? := by
 intro A
 induction A with
 | nil => intro i t _; rfl
 | cons v vs ih =>
  intro i t h
  cases t with
  | zero => simp only [Nat.add_zero] at h; simp [g7, h]
  | succ t => simp only [g7, List.getElem?_cons_succ]; exact ih (i + 1) t (by rw [show i + 1 + t = i + (t + 1) from by omega]; exact h)
theorem ge (D : Nat) (A : List Value) : gb D A (clear D A) := ⟨(tl D A 0).symm, fun t h => (zL D A 0 t (by simpa using h)).symm⟩
def au {R : Type} (D : Nat) (k : List Value → AH → Option R) : Prop := ∀ A A' H, gb D A A' → k A H = k A' H
def opr (D : Nat) : Operand → Bool
 | .tmp t => !D.testBit t
 | _ => true
def KD (D : Nat) : Option Tmp → Nat
 | some d => match D.testBit d with | true => D ^^^ 2 ^ d | false => D
 | none => D
theorem Yh {D : Nat} {d : Option Tmp} {t : Nat} (h : D.testBit t = false) : (KD D d).testBit t = false := by
 unfold KD
 split
 ·split
  ·rename_i hd
   rw [Nat.testBit_xor, h, Nat.testBit_two_pow]
   simp
   intro e
   subst e; rw [h] at hd; cases hd
  ·exact h
 ·exact h
theorem Yi {D : Nat} {d : Option Tmp} {t : Nat} (h : (KD D d).testBit t = false) (hd : d ≠ some t) : D.testBit t = false := by
 unfold KD at h
 split at h
 ·rename_i d
  split at h
  ·rename_i hb
   rw [Nat.testBit_xor, Nat.testBit_two_pow] at h
   have : ¬ d = t := fun e => hd (by rw [e])
   simpa [this] using h
  ·exact h
 ·exact h
def qz (D : Nat) (ops : Array Oper) (o : Oper) : Bool :=
 o.op.operands.toList.all (opr D) && match o.guard with
 | none => true
 | some g => match (ops[g.1]?).bind (·.dst) with
  | some t => !D.testBit t
  | none => true
def lL (ops : Array Oper) : List Oper → Nat → Option Nat
 | [], D => some D
 | o :: rest, D => match qz D ops o with
  | true => lL ops rest (KD D o.dst)
  | false => none
def ph : Code → Nat → Option Nat
 | .skip, D => some D
 | .label _, D => some D
 | .region _ ops _, D => lL ops ops.toList D
 | .seq x y, D => match ph x D with
  | some D1 => match ph y D1 with
   | some D2 => some D2
   | none => none
  | none => none
 | .cond c x y, D => match opr D c with
  | true => match ph x D, ph y D with
   | some D1, some D2 => some (D1 ||| D2)
   | _, _ => none
  | false => none
 | .block _ x, D => match ph x D with
  | some _ => some D
  | none => none
 | .loop x, D => match ph x D with
  | some _ => some D
  | none => none
 | .exit _, _ => some 0
 | .ret, _ => some 0
 | _, _ => none
section
variable {P : Program} {G : List Nat} {call : be} {R : Type}
theorem gb.mono {D D' : Nat} {A A' : List Value} (h : gb D A A') (hm : ∀ t, D'.testBit t = false → D.testBit t = false) : gb D' A A' := ⟨h.1, fun t ht => h.2 t (hm t ht)⟩
theorem gb.ev {D : Nat} {A A' : List Value} (h : gb D A A') {x : Operand} (hx : opr D x = true) : dK A x = dK A' x := by
 cases x with
 | tmp t => simp only [opr, Bool.not_eq_true'] at hx; simp only [dK]; rw [h.2 t hx]
 | _ => rfl
theorem gb.put {D : Nat} {A A' : List Value} (h : gb D A A') (d : Option Tmp) (v : Value) : gb (KD D d) (i7 A d v) (i7 A' d v) := by
 refine ⟨by rw [kc, kc, h.1], fun t ht => ?_⟩
 by_cases hd : d = some t
 ·subst hd; rw [vE, vE, h.1]
 ·rw [q7 hd, q7 hd]; exact h.2 t (Yi ht hd)
theorem UX {ops : Array Oper} : ∀ {l : List Oper} {D D' : Nat}, lL ops l D = some D' → ∀ t, D.testBit t = false → D'.testBit t = false := by
 intro l
 induction l with
 | nil => intro D D' h t ht; simp only [lL] at h; cases h; exact ht
 | cons o l ih =>
  intro D D' h t ht
  simp only [lL] at h
  split at h
  ·exact ih h t (Yh ht)
  ·cases h
theorem Db : ∀ {c : Code} {D D' : Nat}, ph c D = some D' → ∀ t, D.testBit t = false → D'.testBit t = false := by
 intro c
 induction c with
 | skip => intro D D' h t ht; simp only [ph] at h; cases h; exact ht
 | label l => intro D D' h t ht; simp only [ph] at h; cases h; exact ht
 | region id ops draw => intro D D' h; simp only [ph] at h; exact UX h
 | seq x y ihx ihy =>
  intro D D' h t ht
  simp only [ph] at h
  split at h
  ·rename_i D1 h1
   split at h
   ·rename_i D2 h2; cases h; exact ihy h2 t (ihx h1 t ht)
   ·cases h
  ·cases h
 | cond c x y ihx ihy =>
  intro D D' h t ht
  simp only [ph] at h
  split at h
  ·split at h
   ·rename_i D1 D2 h1 h2; cases h
    rw [Nat.testBit_or, ihx h1 t ht, ihy h2 t ht]; rfl
   ·cases h
  ·cases h
 | block id x ih => intro D D' h t ht; simp only [ph] at h; split at h <;> cases h; exact ht
 | loop x ih => intro D D' h t ht; simp only [ph] at h; split at h <;> cases h; exact ht
 | exit id => intro D D' h t ht; simp only [ph] at h; cases h; simp
 | ret => intro D D' h t ht; simp only [ph] at h; cases h; simp
 | rangeFunc => intro D D' h; simp [ph] at h
 | scope => intro D D' h; simp [ph] at h
 | goto => intro D D' h; simp [ph] at h
 | refuse => intro D D' h; simp [ph] at h
inductive Both (D : Nat) : Option (List Value × AH) → Option (List Value × AH) → Prop
 | no : Both D none none
 | yes {A A' : List Value} (H : AH) (h : gb D A A') : Both D (some (A, H)) (some (A', H))
theorem QK {ops : Array Oper} {o : Oper} {D : Nat} (ho : qz D ops o = true) {A A' : List Value} (h : gb D A A') (H : AH) : Both (KD D o.dst) (eh P G call ops o A H) (eh P G call ops o A' H) := by
 unfold qz at ho
 simp only [Bool.and_eq_true] at ho
 have hev : ∀ x ∈ o.op.operands.toList, dK A x = dK A' x := fun x hx => h.ev (List.all_eq_true.1 ho.1 x hx)
 have hw : Region.wanted o (cK ops A) = Region.wanted o (cK ops A') := by
  unfold Region.wanted
  cases hg : o.guard with
  | none => rfl
  | some g =>
   obtain ⟨g, want⟩ := g
   rw [hg] at ho
   have hy : cK ops A g = cK ops A' g := by
    unfold cK
    cases hd : (ops[g]?).bind (·.dst) with
    | none => rfl
    | some t =>
     have h2 := ho.2
     simp only [hd, Bool.not_eq_true'] at h2
     simp only [Option.bind_some]
     rw [h.2 t h2]
   simp only [hy]
 unfold eh
 rw [hw, ll hev H]
 split
 ·split
  ·cases dj P call (dK A') o H with
   | none => exact .no
   | some r => exact .yes r.2 (h.put o.dst r.1)
  ·exact .yes H (h.put o.dst undef)
 ·exact .no
theorem sr {ops : Array Oper} : ∀ {l : List Oper} {D D' : Nat}, lL ops l D = some D' → ∀ {A A' : List Value}, gb D A A' → ∀ H, Both D' (cp P G call ops l A H) (cp P G call ops l A' H) := by
 intro l
 induction l with
 | nil => intro D D' h A A' hA H; simp only [lL] at h; cases h; exact .yes H hA
 | cons o l ih =>
  intro D D' h A A' hA H
  simp only [lL] at h
  split at h
  ·rename_i ho
   simp only [cp]
   have := QK (P := P) (G := G) (call := call) ho hA H
   generalize eh P G call ops o A H = x at this
   generalize eh P G call ops o A' H = y at this
   cases this with
   | no => exact .no
   | yes H1 hA1 => exact ih h hA1 H1
  ·cases h
theorem Jf {ops : Array Oper} : ∀ {l : List Oper} {D D' : Nat}, lL ops l D = some D' → ∀ i, ∃ Di, lL ops (l.take i) D = some Di ∧ ∀ o, l[i]? = some o → qz Di ops o = true := by
 intro l
 induction l with
 | nil => intro D D' h i; exact ⟨D, by cases i <;> rfl, fun o ho => by simp at ho⟩
 | cons o l ih =>
  intro D D' h i
  simp only [lL] at h
  split at h
  ·rename_i ho
   cases i with
   | zero => exact ⟨D, rfl, fun o' ho' => by simp at ho'; subst ho'; exact ho⟩
   | succ i =>
    obtain ⟨Di, h1, h2⟩ := ih h i
    refine ⟨Di, ?_, fun o' ho' => h2 o' (by simpa using ho')⟩
    simp only [List.take_succ_cons, lL, ho]
    exact h1
  ·cases h
theorem N2 {ops : Array Oper} {D D' : Nat} (h : lL ops ops.toList D = some D') {A A' : List Value} (hA : gb D A A') (H : AH) : Both D' (ka P G call ops A H) (ka P G call ops A' H) := by
 unfold ka
 split
 ·exact .no
 ·split
  ·exact sr h hA H
  ·rename_i p ps hp
   have hb := sr (P := P) (G := G) (call := call) h hA H
   have key : cp P G call ops ops.toList A H ≠ none → ((∀ q ∈ p :: ps, hJ P (gY P G call ops A H) ops q) ↔ ∀ q ∈ p :: ps, hJ P (gY P G call ops A' H) ops q) := by
    intro hne
    have hst : ∀ i, ∃ Di, gb Di (gY P G call ops A H i).1 (gY P G call ops A' H i).1 ∧ (gY P G call ops A H i).2 = (gY P G call ops A' H i).2 ∧ ∀ o, ops[i]? = some o → qz Di ops o = true := by
     intro i
     obtain ⟨Di, h1, h2⟩ := Jf h i
     have hbi := sr (P := P) (G := G) (call := call) h1 hA H
     cases hx : cp P G call ops ops.toList A H with
     | none => exact absurd hx hne
     | some r =>
      have h3 := s8 hx i
      rw [h3] at hbi
      unfold gY at hbi ⊢
      rw [h3] at hbi ⊢
      generalize cp P G call ops (ops.toList.take i) A' H = y at hbi
      simp only [Option.getD_some] at hbi ⊢
      generalize hz : gY P G call ops A H i = z at hbi
      unfold gY at hz
      rw [h3] at hz
      simp only [Option.getD_some] at hz
      cases hbi with
      | yes H1 hA1 =>
       exact ⟨Di, hA1, rfl, fun o ho => h2 o (by simpa using ho)⟩
    have one : ∀ q, hJ P (gY P G call ops A H) ops q ↔ hJ P (gY P G call ops A' H) ops q := by
     intro q
     unfold hJ
     obtain ⟨D1, a1, e1, o1⟩ := hst q.1
     obtain ⟨D2, a2, e2, o2⟩ := hst (if q.2 < q.1 then q.2 else q.2 + 1)
     constructor
     ·intro hl o ho
      have hev : ∀ x ∈ o.op.operands.toList, dK (gY P G call ops A H q.1).1 x = dK (gY P G call ops A' H q.1).1 x := fun x hx => a1.ev (by
       have := o1 o ho
       unfold qz at this
       simp only [Bool.and_eq_true] at this
       exact List.all_eq_true.1 this.1 x hx)
      have := hl o ho
      rw [oN hev, oN hev, e1, e2] at this
      exact this
     ·intro hl o ho
      have hev : ∀ x ∈ o.op.operands.toList, dK (gY P G call ops A H q.1).1 x = dK (gY P G call ops A' H q.1).1 x := fun x hx => a1.ev (by
       have := o1 o ho
       unfold qz at this
       simp only [Bool.and_eq_true] at this
       exact List.all_eq_true.1 this.1 x hx)
      rw [oN hev, oN hev, e1, e2]
      exact hl o ho
    exact ⟨fun hl q hq => (one q).1 (hl q hq), fun hl q hq => (one q).2 (hl q hq)⟩
   have hn : cp P G call ops ops.toList A H = none → cp P G call ops ops.toList A' H = none := by
    intro e; rw [e] at hb; generalize cp P G call ops ops.toList A' H = y at hb; cases hb; rfl
   by_cases hne : cp P G call ops ops.toList A H = none
   ·rw [hne, hn hne]
    unfold Ey
    have : ∀ (c : Prop) [Decidable c], (if c then (none : Option (List Value × AH)) else none) = none := fun c _ => by split <;> rfl
    rw [this, this]; exact .no
   ·unfold Ey
    by_cases hc : ∀ q ∈ p :: ps, hJ P (gY P G call ops A H) ops q
    ·rw [if_pos hc, if_pos ((key hne).1 hc)]; exact hb
    ·rw [if_neg hc, if_neg (fun h => hc ((key hne).2 h))]; exact .no
inductive BothR (D D' : Nat) : Option AR → Option AR → Prop
 | no : BothR D D' none none
 | normal {A A' : List Value} (H : AH) (h : gb D' A A') : BothR D D' (some (.normal, A, H)) (some (.normal, A', H))
 | exit (i : Nat) {A A' : List Value} (H : AH) (h : gb D A A') : BothR D D' (some (.exit i, A, H)) (some (.exit i, A', H))
 | ret {A A' : List Value} (H : AH) (h : gb D A A') : BothR D D' (some (.ret, A, H)) (some (.ret, A', H))
theorem An : ∀ {c : Code} {D D' : Nat}, ph c D = some D' → ∀ {A A' : List Value}, gb D A A' → ∀ H, BothR D D' (aK P G call c A H) (aK P G call c A' H) := by
 intro c
 induction c with
 | skip => intro D D' h A A' hA H; simp only [ph] at h; cases h; exact .normal H hA
 | label l => intro D D' h A A' hA H; simp only [ph] at h; cases h; exact .normal H hA
 | exit id => intro D D' h A A' hA H; exact .exit id H hA
 | ret => intro D D' h A A' hA H; exact .ret H hA
 | region id ops draw =>
  intro D D' h A A' hA H
  simp only [ph] at h
  simp only [aK]
  have hb : Both D' (d7 P G call ops draw A H) (d7 P G call ops draw A' H) := by
   cases draw with
   | true => exact N2 h hA H
   | false => exact sr h hA H
  generalize d7 P G call ops draw A H = x at hb
  generalize d7 P G call ops draw A' H = y at hb
  cases hb with
  | no => exact .no
  | yes H1 hA1 => exact .normal H1 hA1
 | seq x y ihx ihy =>
  intro D D' h A A' hA H
  simp only [ph] at h
  split at h
  ·rename_i D1 h1
   split at h
   ·rename_i D2 h2
    cases h
    simp only [aK]
    have hb := ihx h1 hA H
    generalize aK P G call x A H = u at hb
    generalize aK P G call x A' H = v at hb
    cases hb with
    | no => exact .no
    | normal H1 hA1 =>
     have hb2 := ihy h2 hA1 H1
     simp only [Option.bind_some]
     rename_i A1 A1'
     generalize aK P G call y A1 H1 = u at hb2
     generalize aK P G call y A1' H1 = v at hb2
     cases hb2 with
     | no => exact .no
     | normal H2 hA2 => exact .normal H2 hA2
     | exit i H2 hA2 => exact .exit i H2 (hA2.mono (fun t ht => Db h1 t ht))
     | ret H2 hA2 => exact .ret H2 (hA2.mono (fun t ht => Db h1 t ht))
    | exit i H1 hA1 => exact .exit i H1 hA1
    | ret H1 hA1 => exact .ret H1 hA1
   ·cases h
  ·cases h
 | cond c x y ihx ihy =>
  intro D D' h A A' hA H
  simp only [ph] at h
  split at h
  ·rename_i hc
   split at h
   ·rename_i D1 D2 h1 h2
    cases h
    simp only [aK]
    rw [hA.ev hc]
    have m1 : ∀ t, (D1 ||| D2).testBit t = false → D1.testBit t = false := fun t ht => by rw [Nat.testBit_or, Bool.or_eq_false_iff] at ht; exact ht.1
    have m2 : ∀ t, (D1 ||| D2).testBit t = false → D2.testBit t = false := fun t ht => by rw [Nat.testBit_or, Bool.or_eq_false_iff] at ht; exact ht.2
    generalize dK A' c = v
    cases v with
    | bool b =>
     cases b with
     | true =>
      have hb := ihx h1 hA H
      simp only
      generalize aK P G call x A H = u at hb
      generalize aK P G call x A' H = v at hb
      cases hb with
      | no => exact .no
      | normal H1 hA1 => exact .normal H1 (hA1.mono m1)
      | exit i H1 hA1 => exact .exit i H1 hA1
      | ret H1 hA1 => exact .ret H1 hA1
     | false =>
      have hb := ihy h2 hA H
      simp only
      generalize aK P G call y A H = u at hb
      generalize aK P G call y A' H = v at hb
      cases hb with
      | no => exact .no
      | normal H1 hA1 => exact .normal H1 (hA1.mono m2)
      | exit i H1 hA1 => exact .exit i H1 hA1
      | ret H1 hA1 => exact .ret H1 hA1
    | _ => exact .no
   ·cases h
  ·cases h
 | block id x ih =>
  intro D D' h A A' hA H
  simp only [ph] at h
  split at h <;> cases h
  rename_i D1 h1
  simp only [aK]
  have hb := ih h1 hA H
  generalize aK P G call x A H = u at hb
  generalize aK P G call x A' H = v at hb
  cases hb with
  | no => exact .no
  | normal H1 hA1 => exact .normal H1 (hA1.mono (fun t ht => Db h1 t ht))
  | exit i H1 hA1 =>
   simp only [Option.map_some]
   split
   ·exact .normal H1 hA1
   ·exact .exit i H1 hA1
  | ret H1 hA1 => exact .ret H1 hA1
 | loop x ih =>
  intro D D' h A A' hA H
  simp only [ph] at h
  split at h <;> cases h
  rename_i D1 h1
  simp only [aK]
  have it : ∀ n {A A' : List Value} (H : AH), gb D A A' → BothR D D (du (aK P G call x) n A H) (du (aK P G call x) n A' H) := by
   intro n
   induction n with
   | zero => intro A A' H _; exact .no
   | succ n ihn =>
    intro A A' H hA
    simp only [du]
    have hb := ih h1 hA H
    generalize aK P G call x A H = u at hb
    generalize aK P G call x A' H = v at hb
    cases hb with
    | no => exact .no
    | normal H1 hA1 => exact ihn H1 (hA1.mono (fun t ht => Db h1 t ht))
    | exit i H1 hA1 => exact .exit i H1 hA1
    | ret H1 hA1 => exact .ret H1 hA1
  cases hl : mG (aK P G call x) A H with
  | some r =>
   obtain ⟨n, hn⟩ := cn.1 hl
   have hb := it n H hA
   rw [hn] at hb
   cases hm : du (aK P G call x) n A' H with
   | none => rw [hm] at hb; cases hb
   | some r' =>
    rw [cn.2 ⟨n, hm⟩]
    rw [hm] at hb
    exact hb
  | none =>
   cases hl' : mG (aK P G call x) A' H with
   | none => exact .no
   | some r' =>
    obtain ⟨n, hn⟩ := cn.1 hl'
    have hb := it n H hA
    rw [hn] at hb
    cases hm : du (aK P G call x) n A H with
    | none => rw [hm] at hb; cases hb
    | some r => rw [cn.2 ⟨n, hm⟩] at hl; cases hl
 | rangeFunc => intro D D' h; simp [ph] at h
 | scope => intro D D' h; simp [ph] at h
 | goto => intro D D' h; simp [ph] at h
 | refuse => intro D D' h; simp [ph] at h
def z9 (D D' : Nat) : Bool := D ||| D' == D'
theorem Nt {D D' : Nat} (h : z9 D D' = true) : ∀ t, D'.testBit t = false → D.testBit t = false := by
 intro t ht
 unfold z9 at h
 have e : D ||| D' = D' := by simpa using h
 rw [← e, Nat.testBit_or, Bool.or_eq_false_iff] at ht
 exact ht.1
theorem au.le {D D' : Nat} {k : List Value → AH → Option R} (h : au D' k) (hs : z9 D D' = true) : au D k := fun A A' H hA => h A A' H (hA.mono (Nt hs))
def tN (c : Code) (D D' : Nat) : Bool := match ph c D with
 | some D1 => z9 D1 D'
 | none => false
theorem P9 {c : Code} {D D' : Nat} {kn : List Value → AH → Option R} {kx : Nat → List Value → AH → Option R} {kr : List Value → AH → Option R} (h : tN c D D' = true) (hn : au D' kn) (hx : ∀ i, au D (kx i)) (hr : au D kr) :
 au D (fun A H => aW P G call c A H kn kx kr) := by
 intro A A' H hA
 unfold tN at h
 split at h
 ·rename_i D1 h1
  simp only
  rw [ra, ra]
  have hb := An (P := P) (G := G) (call := call) h1 hA H
  generalize aK P G call c A H = u at hb
  generalize aK P G call c A' H = v at hb
  cases hb with
  | no => rfl
  | normal H1 hA1 => exact hn _ _ H1 (hA1.mono (Nt h))
  | exit i H1 hA1 => exact hx i _ _ H1 hA1
  | ret H1 hA1 => exact hr _ _ H1 hA1
 ·cases h
theorem Qa {c : Code} {D : Nat} {kx : Nat → List Value → AH → Option R} {kr : List Value → AH → Option R} (h : tN c D D = true) (hx : ∀ i, au D (kx i)) (hr : au D kr) :
 au D (fun A H => gm P G call c A H kx kr) := by
 intro A A' H hA
 unfold tN at h
 split at h
 ·rename_i D1 h1
  have hb := An (P := P) (G := G) (call := call) (c := .loop c) (D := D) (D' := D) (by simp only [ph, h1]) hA H
  simp only [aK] at hb
  simp only [gm]
  generalize mG (aK P G call c) A H = u at hb
  generalize mG (aK P G call c) A' H = v at hb
  cases hb with
  | no => rfl
  | normal H1 hA1 => rfl
  | exit i H1 hA1 => exact hx i _ _ H1 hA1
  | ret H1 hA1 => exact hr _ _ H1 hA1
 ·cases h
def MI (D : Nat) (rs : List ResultVar) : Bool := rs.all fun r => match r with
 | .tmp t => !D.testBit t
 | .cell a _ => !D.testBit a
theorem Qb {D : Nat} : ∀ {rs : List ResultVar} (_ : MI D rs = true) (k : List Value → AH → Option R), au D (fun A H => pL P A H rs fun vs => k vs H) := by
 intro rs
 induction rs with
 | nil => intro _ k A A' H hA; rfl
 | cons r rs ih =>
  intro h k A A' H hA
  unfold MI at h
  simp only [List.all_cons, Bool.and_eq_true] at h
  cases r with
  | tmp t =>
   simp only [Bool.not_eq_true'] at h
   simp only [pL]
   rw [hA.2 t h.1]
   exact ih h.2 (fun vs H => k ((A'[t]?.getD undef) :: vs) H) A A' H hA
  | cell a t =>
   simp only [Bool.not_eq_true'] at h
   simp only [pL]
   rw [hA.2 a h.1, GT, GT]
   congr 1
   funext g
   cases g <;> (simp only; congr 1; funext v; exact ih h.2 (fun vs H => k (v :: vs) H) A A' H hA)
theorem Vw {D : Nat} {rs : List ResultVar} (h : MI D rs = true) : au D (ei P rs) := Qb h fun vs H => some (tup vs, H)
theorem Qc {D : Nat} : au D (fun (_ : List Value) (_ : AH) => (none : Option R)) := fun _ _ _ _ => rfl
theorem JP {D id : Nat} {kn : List Value → AH → Option R} {kx : Nat → List Value → AH → Option R} (hn : au D kn) (hx : ∀ i, au D (kx i)) : ∀ i, au D (fun A H => if i = id then kn A H else kx i A H) := by
 intro i A A' H hA
 simp only
 split
 ·exact hn _ _ _ hA
 ·exact hx i _ _ _ hA
theorem yZ {D : Nat} {n : List Value → AH → Option R} (h : au D n) : au D (fun A H => n (clear D A) H) := by
 intro A A' H hA
 simp only
 rw [← h A (clear D A) H (ge D A), ← h A' (clear D A') H (ge D A')]
 exact h A A' H hA
variable {A : List Value} {H : AH} {kn : List Value → AH → Option R} {kx : Nat → List Value → AH → Option R} {kr : List Value → AH → Option R}
theorem W0 {c x y : Code} {e : Operand} (h : c = .cond e x y) : aW P G call c A H kn kx kr = ax (dK A e) (aW P G call x A H kn kx kr) (aW P G call y A H kn kx kr) := by subst h; rfl
theorem Es {c x : Code} {id : Nat} (h : c = .block id x) {D : Nat} {n : Nat → List Value → AH → Option R} (hn : n = fun i A H => if i = id then kn A H else kx i A H) (hD : ∀ i, au D (n i)) :
 aW P G call c A H kn kx kr = aW P G call x A H kn (fun i A H => n i (clear D A) H) kr := by
 subst h
 have e : (fun i A H => n i (clear D A) H) = n := by
  funext i A H
  exact (hD i A (clear D A) H (ge D A)).symm
 rw [e, hn]; try rfl
theorem XL {c x : Code} (h : c = .loop x) : aW P G call c A H kn kx kr = gm P G call x A H kx kr := by subst h; rfl
theorem I9 {x : Code} {D : Nat} {n : List Value → AH → Option R} (hn : n = fun A H => gm P G call x A H kx kr) (hD : au D n) : gm P G call x A H kx kr = n (clear D A) H := by
 have := hD A (clear D A) H (ge D A)
 rw [← this, hn]
theorem I8 {x : Code} {D : Nat} {n : List Value → AH → Option R} (hn : n = fun A H => gm P G call x A H kx kr) (hD : au D n) :
 gm P G call x A H kx kr = aW P G call x A H (fun A H => n (clear D A) H) kx kr := by
 have e : (fun A H => n (clear D A) H) = n := by
  funext A H
  exact (hD A (clear D A) H (ge D A)).symm
 rw [e, hn]; exact Rx ..
def Code.pre : Nat → Code → Code
 | 0, .seq x _ => x
 | k + 1, .seq x y => .seq x (Code.pre k y)
 | _, c => c
def Code.post : Nat → Code → Code
 | 0, .seq _ y => y
 | k + 1, .seq _ y => Code.post k y
 | _, _ => .skip
theorem Z0 : ∀ (k : Nat) (c : Code) (A : List Value) (H : AH), aW P G call c A H kn kx kr = aW P G call (Code.pre k c) A H (fun A H => aW P G call (Code.post k c) A H kn kx kr) kx kr := by
 intro k
 induction k with
 | zero => intro c A H; cases c <;> rfl
 | succ k ih =>
  intro c A H
  cases c with
  | seq x y =>
   have e : (fun A H => aW P G call y A H kn kx kr) = fun A H => aW P G call (Code.pre k y) A H (fun A H => aW P G call (Code.post k y) A H kn kx kr) kx kr := by
    funext A H; exact ih y A H
   show aW P G call x A H (fun A H => aW P G call y A H kn kx kr) kx kr = _
   rw [e]; rfl
  | _ => rfl
variable {l T : Option R}
theorem Z3 {c : Code} {k D : Nat} {n : List Value → AH → Option R} (h0 : l = aW P G call c A H kn kx kr) (hn : n = fun A H => aW P G call (Code.post k c) A H kn kx kr) (hD : au D n)
 (h1 : aW P G call (Code.pre k c) A H (fun A H => n (clear D A) H) kx kr = T) : l = T := by
 have e : (fun A H => n (clear D A) H) = n := by
  funext A H
  exact (hD A (clear D A) H (ge D A)).symm
 rw [e, hn] at h1
 exact h0.trans ((Z0 k c A H).trans h1)
theorem RG {v v' : Value} {x x' y y' : Option R} (h : v = v') (hx : x = x') (hy : y = y') : ax v x y = ax v' x' y' := by rw [h, hx, hy]
theorem W1 {c x y : Code} {e : Operand} (h0 : l = aW P G call c A H kn kx kr) (h : c = .cond e x y) (h1 : ax (dK A e) (aW P G call x A H kn kx kr) (aW P G call y A H kn kx kr) = T) : l = T := h0.trans ((W0 h).trans h1)
theorem Rv {c x : Code} {id D : Nat} {n : Nat → List Value → AH → Option R} (h0 : l = aW P G call c A H kn kx kr) (h : c = .block id x) (hn : n = fun i A H => if i = id then kn A H else kx i A H) (hD : ∀ i, au D (n i))
 (h1 : aW P G call x A H kn (fun i A H => n i (clear D A) H) kr = T) : l = T := h0.trans ((Es h hn hD).trans h1)
theorem XM {c x : Code} {D : Nat} {n : List Value → AH → Option R} (h0 : l = aW P G call c A H kn kx kr) (h : c = .loop x) (hn : n = fun A H => gm P G call x A H kx kr) (hD : au D n) (h1 : n (clear D A) H = T) : l = T :=
 h0.trans ((XL h).trans ((I9 hn hD).trans h1))
theorem XN {x : Code} {D : Nat} {n : List Value → AH → Option R} (h0 : l = gm P G call x A H kx kr) (hn : n = fun A H => gm P G call x A H kx kr) (hD : au D n)
 (h1 : aW P G call x A H (fun A H => n (clear D A) H) kx kr = T) : l = T := h0.trans ((I8 hn hD).trans h1)
end
abbrev OV := Option (Value × AH)
abbrev u : Value := undef
abbrev KK := List Value → AH → OV
abbrev KX := Nat → List Value → AH → OV
noncomputable abbrev CK (P : Program) (G : List Nat) (call : be) (c : Code) (kn : KK) (kx : KX) (kr : KK) : KK := fun A H => aW P G call c A H kn kx kr
noncomputable abbrev CL (P : Program) (G : List Nat) (call : be) (c : Code) (kx : KX) (kr : KK) : KK := fun A H => gm P G call c A H kx kr
abbrev BX (id : Nat) (kn : KK) (kx : KX) : KX := fun i A H => if i = id then kn A H else kx i A H
abbrev dv (D : Nat) (n : KK) : KK := fun A H => n (clear D A) H
abbrev py (D : Nat) (n : KX) : KX := fun i A H => n i (clear D A) H
def bx : KX := fun _ _ _ => none
def aa8 : Nat := 2 ^ 4096 - 1
def ls (l : List Value) (n : Nat) : List Value := l ++ List.replicate n u
section
variable {P : Program} {G : List Nat} {call : be} {A : List Value} {H : AH} {kn : KK} {kx : KX} {kr : KK} {l T : OV}
theorem aC : ∀ i, au aa8 (bx i) := fun _ => Qc
theorem rf {rs : List ResultVar} {D : Nat} (h : MI D rs = true := by kernel_rfl) : au D (ei P rs) := Vw h
theorem rc {c : Code} {D Dn Dx Dr : Nat} (hn : au Dn kn) (hx : ∀ i, au Dx (kx i)) (hr : au Dr kr) (h : (tN c D Dn && (z9 D Dx && z9 D Dr)) = true := by kernel_rfl) : au D (CK P G call c kn kx kr) := by
 simp only [Bool.and_eq_true] at h
 exact P9 h.1 hn (fun i => (hx i).le h.2.1) (hr.le h.2.2)
theorem rl {c : Code} {D Dx Dr : Nat} (hx : ∀ i, au Dx (kx i)) (hr : au Dr kr) (h : (tN c D D && (z9 D Dx && z9 D Dr)) = true := by kernel_rfl) : au D (CL P G call c kx kr) := by
 simp only [Bool.and_eq_true] at h
 exact Qa h.1 (fun i => (hx i).le h.2.1) (hr.le h.2.2)
theorem rb {D id Dn Dx : Nat} (hn : au Dn kn) (hx : ∀ i, au Dx (kx i)) (h : (z9 D Dn && z9 D Dx) = true := by kernel_rfl) : ∀ i, au D (BX id kn kx i) := by
 simp only [Bool.and_eq_true] at h
 exact JP (hn.le h.1) (fun i => (hx i).le h.2)
theorem cd {D : Nat} {n : KK} (h : au D n) : au D (dv D n) := yZ h
theorem cx {D : Nat} {n : KX} (h : ∀ i, au D (n i)) : ∀ i, au D (py D n i) := fun i => yZ (h i)
theorem pt {c : Code} {D : Nat} {n : KK} (h0 : l = aW P G call c A H kn kx kr) (k : Nat) (hD : au D n) (h1 : aW P G call (Code.pre k c) A H (dv D n) kx kr = T)
 (hn : n = fun A H => aW P G call (Code.post k c) A H kn kx kr := by kernel_rfl) : l = T := Z3 h0 hn hD h1
theorem ct {c : Code} (h0 : l = aW P G call c A H kn kx kr) (x y : Code) (e : Operand) {v : Value} {X Y : OV} (hx : aW P G call x A H kn kx kr = X) (hy : aW P G call y A H kn kx kr = Y)
 (h : c = .cond e x y := by kernel_rfl) (he : dK A e = v := by kernel_rfl) : l = ax v X Y := W1 h0 h (RG he hx hy)
theorem bt {c : Code} {D : Nat} {n : KX} (h0 : l = aW P G call c A H kn kx kr) (x : Code) (id : Nat) (hD : ∀ i, au D (n i)) (h1 : aW P G call x A H kn (py D n) kr = T)
 (h : c = .block id x := by kernel_rfl) (hn : n = fun i A H => if i = id then kn A H else kx i A H := by kernel_rfl) : l = T := Rv h0 h hn hD h1
theorem li {c : Code} {D : Nat} {n : KK} (h0 : l = aW P G call c A H kn kx kr) (x : Code) (hD : au D n) (h1 : n (clear D A) H = T) (h : c = .loop x := by kernel_rfl)
 (hn : n = fun A H => gm P G call x A H kx kr := by kernel_rfl) : l = T := XM h0 h hn hD h1
theorem th {x : Code} {D : Nat} {n : KK} (h0 : l = gm P G call x A H kx kr) (hD : au D n) (h1 : aW P G call x A H (dv D n) kx kr = T)
 (hn : n = fun A H => gm P G call x A H kx kr := by kernel_rfl) : l = T := XN h0 hn hD h1
theorem ht' {id : Nat} (h0 : l = BX id kn kx id A H) (h1 : kn A H = T) : l = T := by rw [h0, ← h1]; simp [BX]
theorem fo {f : Nat} {fn : Func} (hf : P.funcs[f]? = some fn) {args : List Value} {t : OV} {r : Value × AH} (e : KS P G (aF P G) fn.ntmps fn.results.toList (bJ fn) args H = t) (h : t = some r)
 (hb : fn.body.isSome = true := by kernel_rfl) (hn : (fn.name == "runtime.NumGoroutine") = false := by kernel_rfl) (hd : iU (bJ fn) = none := by kernel_rfl) : aF P G f args H = some r := Hi hf hb hn hd (e.trans h)
end
end Go.Proofs.YtodpbobjmkhcfaaGreatDoor.Gst
namespace Go.Proofs.YtodpbobjmkhcfaaGreatDoor.Gst
open Go Go.RowKit Go.ChangeShapes
set_option linter.unusedSimpArgs false
def dP (H H' : AH) : Prop := H.size ≤ H'.size ∧ ∀ b, b < H.size → H'.get b = H.get b
theorem dP.refl (H : AH) : dP H H := ⟨Nat.le_refl _, fun _ _ => rfl⟩
theorem dP.trans {A B C : AH} (h : dP A B) (k : dP B C) : dP A C := ⟨Nat.le_trans h.1 k.1, fun b hb => by rw [k.2 b (by have := h.1; omega), h.2 b hb]⟩
theorem dP.push (H : AH) (o : AObj) : dP H (H.push o) := ⟨by rw [AH.size_push]; omega, fun b hb => AH.get_push_old hb⟩
theorem dP.get {H H' : AH} (h : dP H H') {b : Nat} {o : AObj} (hb : H.get b = some o) : H'.get b = some o := by rw [h.2 b (AH.lt_of_get hb)]; exact hb
inductive Ty where
 | int (k : IntKind)
 | bool
 | slice (t : Ty)
 | unit
 | pair (a b : Ty)
def Ty.w : Ty → Nat
 | .int _ | .bool | .slice _ => 1
 | .unit => 0
 | .pair a b => a.w + b.w
abbrev Ty.I : Ty → Type
 | .int _ => Int
 | .bool => Bool
 | .slice t => List t.I
 | .unit => Unit
 | .pair a b => a.I × b.I
inductive iT {α : Type} (R : α → List Value → Prop) : List α → List Value → Prop
 | nil : iT R [] []
 | cons {x : α} {l : List α} {c cs : List Value} (h : R x c) (k : iT R l cs) : iT R (x :: l) (c ++ cs)
def Abs (H : AH) : (t : Ty) → t.I → List Value → Prop
 | .int k, n, cs => cs = [.int k n] ∧ (Lit.int k n).wf = true
 | .bool, b, cs => cs = [.bool b]
 | .unit, _, cs => cs = []
 | .pair a b, x, cs => ∃ c1 c2, cs = c1 ++ c2 ∧ Abs H a x.1 c1 ∧ Abs H b x.2 c2
 | .slice t, l, cs => (l = [] ∧ cs = [.slice none 0 0]) ∨ (l = [] ∧ ∃ b, cs = [.slice (some ⟨b, 0, none⟩) 0 0]) ∨
  ∃ b row, H.get b = some (.cells true row) ∧ cs = [.slice (some ⟨b, 0, none⟩) l.length t.w] ∧ iT (Abs H t) l row ∧ l.length ≤ maxLen
theorem iT.mono {α : Type} {R S : α → List Value → Prop} (h : ∀ x c, R x c → S x c) {l : List α} {cs : List Value} (k : iT R l cs) : iT S l cs := by
 induction k with
 | nil => exact .nil
 | cons h1 _ ih => exact .cons (h _ _ h1) ih
theorem Abs.keep {H H' : AH} (k : dP H H') : ∀ (t : Ty) (x : t.I) (cs : List Value), Abs H t x cs → Abs H' t x cs := by
 intro t
 induction t with
 | int k => intro x cs h; exact h
 | bool => intro x cs h; exact h
 | unit => intro x cs h; exact h
 | pair a b iha ihb =>
  intro x cs h
  obtain ⟨c1, c2, e, h1, h2⟩ := h
  exact ⟨c1, c2, e, iha _ _ h1, ihb _ _ h2⟩
 | slice t ih =>
  intro x cs h
  rcases h with h | h | ⟨b, row, h1, h2, h3, h4⟩
  ·exact .inl h
  ·exact .inr (.inl h)
  ·exact .inr (.inr ⟨b, row, k.get h1, h2, h3.mono ih, h4⟩)
theorem iT.length {α : Type} {R : α → List Value → Prop} {n : Nat} (h : ∀ x c, R x c → c.length = n) {l : List α} {cs : List Value} (k : iT R l cs) : cs.length = l.length * n := by
 induction k with
 | nil => simp
 | cons h1 _ ih => rw [List.length_append, h _ _ h1, ih, List.length_cons, Nat.add_mul]; omega
theorem Abs.length {H : AH} : ∀ (t : Ty) (x : t.I) (cs : List Value), Abs H t x cs → cs.length = t.w := by
 intro t
 induction t with
 | int k => intro x cs h; rw [h.1]; rfl
 | bool => intro x cs h; have h : cs = _ := h; rw [h]; rfl
 | unit => intro x cs h; have h : cs = _ := h; rw [h]; rfl
 | pair a b iha ihb =>
  intro x cs h
  obtain ⟨c1, c2, e, h1, h2⟩ := h
  rw [e, List.length_append, iha _ _ h1, ihb _ _ h2]; rfl
 | slice t ih =>
  intro x cs h
  rcases h with h | ⟨_, b, h⟩ | ⟨b, row, h1, h2, h3, h4⟩
  ·rw [h.2]; rfl
  ·rw [h]; rfl
  ·rw [h2]; rfl
def wu : (t : Ty) → t.I → Prop
 | .int _, _ => True
 | .bool, _ => True
 | .unit, _ => True
 | .pair a b, x => wu a x.1 ∧ wu b x.2
 | .slice t, l => l.length ≤ reachBytes ∧ ∀ x ∈ l, wu t x
def Za {Hd : Type} (P : Program) (t : TypeId) (d : DataW Hd) : Prop := ∀ n ∈ DataW.weights P t d, n ≤ reachBytes
theorem oH {Hd : Type} {P : Program} {e : TypeId} {d : DataW Hd} {n : Nat} : ∀ {l : List (DataW Hd)}, d ∈ l → n ∈ DataW.weights P e d → n ∈ DataW.weightsAll P e l := by
 intro l
 induction l with
 | nil => intro h; cases h
 | cons x l ih =>
  intro h hn
  rw [DataW.weightsAll, List.mem_append]
  rcases List.mem_cons.1 h with rfl | h
  ·exact .inl hn
  ·exact .inr (ih h hn)
theorem vD {Hd : Type} {P : Program} {n : Nat} : ∀ {ts : List TypeId} {ds : List (DataW Hd)} {i : Nat} {t : TypeId} {d : DataW Hd}, ts[i]? = some t → ds[i]? = some d → n ∈ DataW.weights P t d → n ∈ DataW.weightsEach P ts ds := by
 intro ts
 induction ts with
 | nil => intro ds i t d h; simp at h
 | cons t0 ts ih =>
  intro ds i t d h1 h2 hn
  cases ds with
  | nil => simp at h2
  | cons d0 ds =>
   rw [DataW.weightsEach, List.mem_append]
   cases i with
   | zero =>
    simp at h1 h2
    subst h1; subst h2
    exact .inl hn
   | succ i => exact .inr (ih (by simpa using h1) (by simpa using h2) hn)
def m8 (P : Program) : Ty → (TypeId → Bool) × (List Field → Nat → Bool)
 | .int k => (fun t => match P.underlying t with | some (.int k') => k' == k && P.cellsOf t == 1 | _ => false, fun _ _ => false)
 | .bool => (fun t => match P.underlying t with | some .bool => P.cellsOf t == 1 | _ => false, fun _ _ => false)
 | .slice ty => (fun t => match P.underlying t with | some (.slice e) => (m8 P ty).1 e && P.cellsOf e == ty.w && decide (0 < ty.w ∧ 0 < P.bytesOf e) && P.cellsOf t == 1 | _ => false, fun _ _ => false)
 | .unit => (fun _ => false, fun fs _ => fs.isEmpty)
 | .pair a b =>
  let F : List Field → Nat → Bool := fun fs off => match fs with
   | f :: fs => f.offset == off && (m8 P a).1 f.type && P.cellsOf f.type == a.w && (m8 P b).2 fs (off + a.w)
   | [] => false
  (fun t => match P.underlying t with | some (.struct fs) => P.cellsOf t == a.w + b.w && F fs.toList 0 | _ => false, F)
section
variable {Hd : Type} {enc : TypeId × Value → Hd} {P : Program} {w : World} {held : Bool}
theorem Rel.pushRo {B : Nat} {w0 : World} {ρ : bg} {H : AH} (h : Rel P w0 B ρ H w) {row : List Value} {c d sz : Nat} (hc : c < w.heap.size) (hcB : c < B) (hor : nh P ρ d sz (.cells true row) w.heap[c]?) :
 Rel P w0 B (ρ.upd H.size (c, d, sz)) (H.push (.cells true row)) w := by
 have hnone : ρ H.size = none := by
  cases hn : ρ H.size with
  | none => rfl
  | some x => have := h.dom _ _ hn; omega
 have hle := bg.upd_le (x := (c, d, sz)) hnone
 have key : ∀ b1 o1, (H.push (.cells true row)).get b1 = some o1 → (b1 = H.size ∧ o1 = .cells true row) ∨ (b1 < H.size ∧ H.get b1 = some o1) := by
  intro b1 o1 h1
  rw [AH.get_push] at h1
  by_cases hb1 : b1 = H.size
  ·rw [if_pos hb1] at h1; exact .inl ⟨hb1, (Option.some.inj h1).symm⟩
  ·rw [if_neg hb1] at h1; exact .inr ⟨AH.lt_of_get h1, h1⟩
 have old : ∀ {b1 c1 d1 sz1}, b1 < H.size → ρ.upd H.size (c, d, sz) b1 = some (c1, d1, sz1) → ρ b1 = some (c1, d1, sz1) := by
  intro b1 c1 d1 sz1 hb1 hx
  rwa [bg.upd_ne (by omega)] at hx
 have new : ∀ {c1 d1 sz1}, ρ.upd H.size (c, d, sz) H.size = some (c1, d1, sz1) → c1 = c ∧ d1 = d ∧ sz1 = sz := by
  intro c1 d1 sz1 hx
  rw [bg.upd_same] at hx
  cases hx
  exact ⟨rfl, rfl, rfl⟩
 refine ⟨h.base, h.below, ?_, ?_, ?_, ?_, ?_, ?_⟩
 ·intro b1 x hx
  rw [AH.size_push]
  by_cases hb1 : b1 = H.size
  ·omega
  ·rw [bg.upd_ne hb1] at hx; have := h.dom b1 x hx; omega
 ·intro b1 c1 d1 sz1 hx
  by_cases hb1 : b1 = H.size
  ·subst hb1
   obtain ⟨rfl, _, _⟩ := new hx
   exact hc
  ·rw [bg.upd_ne hb1] at hx; exact h.blk b1 c1 d1 sz1 hx
 ·intro b1 c1 d1 sz1 o1 hx h1
  rcases key b1 o1 h1 with ⟨rfl, rfl⟩ | ⟨hb1, h1⟩
  ·obtain ⟨rfl, rfl, rfl⟩ := new hx
   exact hor.mono hle
  ·exact (h.obj b1 c1 d1 sz1 o1 (old hb1 hx) h1).mono hle
 ·intro b1 c1 d1 sz1 o1 hx h1 hrw
  rcases key b1 o1 h1 with ⟨rfl, rfl⟩ | ⟨hb1, h1⟩
  ·cases hrw
  ·exact h.own b1 c1 d1 sz1 o1 (old hb1 hx) h1 hrw
 ·intro b1 c1 d1 sz1 cs1 hx h1
  rcases key b1 _ h1 with ⟨rfl, _⟩ | ⟨hb1, h1⟩
  ·obtain ⟨rfl, _, _⟩ := new hx
   exact hcB
  ·exact h.ro b1 c1 d1 sz1 cs1 (old hb1 hx) h1
 ·intro b1 b2 c1 d1 d2 sz1 sz2 o1 o2 hx1 hx2 h1 h2 hr1 hr2
  rcases key b1 o1 h1 with ⟨rfl, rfl⟩ | ⟨hb1, h1⟩
  ·cases hr1
  ·rcases key b2 o2 h2 with ⟨rfl, rfl⟩ | ⟨hb2, h2⟩
   ·cases hr2
   ·exact h.inj b1 b2 c1 d1 d2 sz1 sz2 o1 o2 (old hb1 hx1) (old hb2 hx2) h1 h2 hr1 hr2
theorem Gp {B : Nat} {w0 : World} {ρ : bg} {H : AH} (h : Rel P w0 B ρ H w) (x : Nat × Nat × Nat) : ∀ b y, ρ b = some y → ρ.upd H.size x b = some y :=
 bg.upd_le (by
  cases hn : ρ H.size with
  | none => rfl
  | some x => have := h.dom _ _ hn; omega)
def Got (P : Program) (w : World) (ρ : bg) (H : AH) (ty : Ty) (cs : List Value) (ρ' : bg) (H' : AH) : Prop :=
 ∃ x avs, Rel P w w.heap.size ρ' H' w ∧ (∀ b y, ρ b = some y → ρ' b = some y) ∧ dP H H' ∧ LRel P ρ' avs cs ∧ Abs H' ty x avs ∧ wu ty x
theorem uf {fuel : Nat} {t : TypeId} {cs : List Value} {x : DataW Hd × List MemPlace} (h : DataW.trod enc P w 0 (fun _ => true) held fuel t cs = some x) : ∃ n, fuel = n + 1 := by
 cases fuel with
 | zero => simp [DataW.trod] at h
 | succ n => exact ⟨n, rfl⟩
theorem M4 {ty : Ty} {e : TypeId} {n : Nat} (ih : ∀ (cs : List Value) (x : DataW Hd × List MemPlace) (ρ : bg) (H : AH), Rel P w w.heap.size ρ H w → DataW.trod enc P w 0 (fun _ => true) held n e cs = some x → Za P e x.1 → ∃ ρ' H', Got P w ρ H ty cs ρ' H')
 (a : Addr) : ∀ (m i : Nat) (ρ : bg) (H : AH), Rel P w w.heap.size ρ H w → (∀ j, i ≤ j → j < i + m → ∃ y, (w.cells? 0 (a.add (j * ty.w)) ty.w).bind (DataW.trod enc P w 0 (fun _ => true) held n e) = some y ∧ Za P e y.1) →
  ∃ ρ' H' l row cc, Rel P w w.heap.size ρ' H' w ∧ (∀ b y, ρ b = some y → ρ' b = some y) ∧ dP H H' ∧ l.length = m ∧ iT (Abs H' ty) l row ∧ LRel P ρ' row cc ∧ (∀ k, k < m * ty.w → w.cell? (a.add (i * ty.w + k)) = cc[k]?) ∧ cc.length = m * ty.w ∧ ∀ x ∈ l, wu ty x := by
 intro m
 induction m with
 | zero =>
  intro i ρ H hR _
  exact ⟨ρ, H, [], [], [], hR, fun _ _ h => h, dP.refl H, rfl, .nil, LRel.nil, fun k hk => by omega, by simp, fun x hx => by cases hx⟩
 | succ m ihm =>
  intro i ρ H hR hel
  obtain ⟨y, hy, hwy⟩ := hel i (Nat.le_refl _) (by omega)
  obtain ⟨cs, hcs, hy⟩ := Option.bind_eq_some_iff.1 hy
  obtain ⟨ρ1, H1, x, avs, hR1, hle1, hk1, hl1, ha1, hs1⟩ := ih cs y ρ H hR hy hwy
  obtain ⟨ρ2, H2, l, row, cc, hR2, hle2, hk2, hlen, hrow, hl2, hcell, hcl, hs2⟩ := ihm (i + 1) ρ1 H1 hR1 (fun j h1 h2 => hel j (by omega) (by omega))
  obtain ⟨_, hcsl, hcsg⟩ := World.cells?_some hcs
  refine ⟨ρ2, H2, x :: l, avs ++ row, cs ++ cc, hR2, fun b y h => hle2 b y (hle1 b y h), hk1.trans hk2, by simp [hlen], .cons (Abs.keep hk2 ty x avs ha1) hrow, (hl1.mono hle2).append hl2, ?_, ?_, ?_⟩
  ·intro k hk
   have hmul : (m + 1) * ty.w = ty.w + m * ty.w := by rw [Nat.add_mul]; omega
   have hmul2 : (i + 1) * ty.w = i * ty.w + ty.w := by rw [Nat.add_mul]; omega
   by_cases hkw : k < ty.w
   ·rw [List.getElem?_append_left (by omega), ← hcsg k hkw]
    congr 1
    unfold Addr.add
    repeat' split
    all_goals first | rfl | omega | (simp; done) | (simp; omega)
   ·rw [List.getElem?_append_right (by omega), hcsl, ← hcell (k - ty.w) (by omega), hmul2]
    congr 2
    omega
  ·rw [List.length_append, hcsl, hcl, Nat.add_mul]; omega
  ·intro z hz
   rcases List.mem_cons.1 hz with rfl | hz
   ·exact hs1
   ·exact hs2 z hz
theorem Wg : ∀ (ty : Ty),
 (∀ (t : TypeId), (m8 P ty).1 t = true → ∀ (fuel : Nat) (cs : List Value) (x : DataW Hd × List MemPlace) (ρ : bg) (H : AH), Rel P w w.heap.size ρ H w → DataW.trod enc P w 0 (fun _ => true) held fuel t cs = some x → Za P t x.1 → ∃ ρ' H', Got P w ρ H ty cs ρ' H') ∧
 (∀ (fs : List Field) (off : Nat), (m8 P ty).2 fs off = true → ∀ (fuel : Nat) (cs : List Value) (ρ : bg) (H : AH), Rel P w w.heap.size ρ H w → cs.length = off + ty.w →
  (∀ f ∈ fs, ∃ y, DataW.trod enc P w 0 (fun _ => true) held fuel f.type ((cs.drop f.offset).take (P.cellsOf f.type)) = some y ∧ Za P f.type y.1) → ∃ ρ' H', Got P w ρ H ty (cs.drop off) ρ' H') := by
 intro ty
 induction ty with
 | int k =>
  refine ⟨?_, fun fs off h => by cases h⟩
  intro t ht fuel cs x ρ H hR h hwx
  obtain ⟨n, rfl⟩ := uf h
  simp only [m8] at ht
  split at ht
  ·rename_i k' hu
   simp only [Bool.and_eq_true, beq_iff_eq] at ht
   obtain ⟨rfl, _⟩ := ht
   obtain ⟨n, rfl, _, hw⟩ := DataW.trod_int hu h
   exact ⟨ρ, H, n, [.int k' n], hR, fun _ _ h => h, dP.refl H, LRel.of_all rfl, ⟨rfl, hw⟩, trivial⟩
  ·cases ht
 | bool =>
  refine ⟨?_, fun fs off h => by cases h⟩
  intro t ht fuel cs x ρ H hR h hwx
  obtain ⟨n, rfl⟩ := uf h
  simp only [m8] at ht
  split at ht
  ·rename_i hu
   obtain ⟨b, rfl, _⟩ := DataW.trod_bool hu h
   exact ⟨ρ, H, b, [.bool b], hR, fun _ _ h => h, dP.refl H, LRel.of_all rfl, rfl, trivial⟩
  ·cases ht
 | unit =>
  refine ⟨fun t h => by (cases h), ?_⟩
  intro fs off hfs fuel cs ρ H hR hl h
  refine ⟨ρ, H, (), [], hR, fun _ _ h => h, dP.refl H, ?_, rfl, trivial⟩
  have : cs.drop off = [] := List.drop_eq_nil_of_le (by simp [Ty.w] at hl; omega)
  rw [this]; exact LRel.nil
 | slice ty ih =>
  refine ⟨?_, fun fs off h => by cases h⟩
  intro t ht fuel cs x ρ H hR h hwx
  simp only [m8] at ht
  split at ht
  ·rename_i e hu
   simp only [Bool.and_eq_true, beq_iff_eq, decide_eq_true_eq] at ht
   obtain ⟨⟨⟨ht, he⟩, hw, hby⟩, _⟩ := ht
   rcases DataW.trod_slice hu h with ⟨rfl, _⟩ | ⟨a, len, cap, elems, rest, n, rfl, rfl, hx, _, hlc, hcm, hlen, hel, hsp, _⟩
   ·exact ⟨ρ, H, [], [.slice none 0 0], hR, fun _ _ h => h, dP.refl H, LRel.of_all rfl, .inl ⟨rfl, rfl⟩, Nat.zero_le _, fun x hx => by cases hx⟩
   ·have hwt : DataW.weights P t x.1 = (elems.length + rest.length) * P.bytesOf e :: (DataW.weightsAll P e (elems.map (·.1)) ++ DataW.weightsAll P e (rest.map (·.1))) := by
     rw [hx]
     unfold DataW.weights
     rw [hu]
     simp
    have hreach : len ≤ reachBytes := by
     have h1 := hwx _ (by rw [hwt]; exact List.mem_cons_self)
     have h2 : len + rest.length ≤ (elems.length + rest.length) * P.bytesOf e := by
      rw [hlen]
      exact Nat.le_mul_of_pos_right _ hby
     omega
    have hwe : ∀ (y : DataW Hd × List MemPlace), (y ∈ elems ∨ y ∈ rest) → Za P e y.1 := by
     intro y hy n hn
     refine hwx n ?_
     rw [hwt, List.mem_cons, List.mem_append]
     rcases hy with hy | hy
     ·exact .inr (.inl (oH (List.mem_map.2 ⟨y, hy, rfl⟩) hn))
     ·exact .inr (.inr (oH (List.mem_map.2 ⟨y, hy, rfl⟩) hn))
    rw [he] at hel hsp
    by_cases hc0 : cap = 0
    ·subst hc0
     obtain rfl : len = 0 := by omega
     exact ⟨ρ, H, [], [.slice (some ⟨0, 0, none⟩) 0 0], hR, fun _ _ h => h, dP.refl H, LRel.cons .empty LRel.nil, .inr (.inl ⟨rfl, 0, rfl⟩), Nat.zero_le _, fun x hx => by cases hx⟩
    ·have all : ∀ j, 0 ≤ j → j < 0 + cap → ∃ y, (w.cells? 0 (a.add (j * ty.w)) ty.w).bind (DataW.trod enc P w 0 (fun _ => true) held n e) = some y ∧ Za P e y.1 := by
      intro j _ hj
      by_cases hjl : j < len
      ·rw [hel j hjl]
       exact ⟨elems[j]'(by omega), List.getElem?_eq_getElem (by omega), hwe _ (.inl (List.getElem_mem _))⟩
      ·obtain ⟨hr1, hr2⟩ := hsp rfl
       have := hr2 (j - len) (by omega)
       rw [show len + (j - len) = j from by omega] at this
       rw [this]
       exact ⟨rest[j - len]'(by omega), List.getElem?_eq_getElem (by omega), hwe _ (.inr (List.getElem_mem _))⟩
     -- all cells of its cC are there
     obtain ⟨_, _, _, _, cca, _, _, _, _, _, _, hca, hcal, _⟩ := M4 (fun cs x ρ H => ih.1 e ht n cs x ρ H) a cap 0 ρ H hR all
     obtain ⟨ρ1, H1, l, row, cc, hR1, hle1, hk1, hll, hrow, hl1, hcell, hcl, hsm⟩ := M4 (fun cs x ρ H => ih.1 e ht n cs x ρ H) a len 0 ρ H hR (fun j h1 h2 => all j h1 (by omega))
     have hpos : 0 < cap * ty.w := Nat.mul_pos (by omega) hw
     have h0 := hca 0 hpos
     have hsome : ∃ v, cca[0]? = some v := ⟨cca[0]'(by omega), List.getElem?_eq_getElem (by omega)⟩
     obtain ⟨v0, hv0⟩ := hsome
     rw [hv0] at h0
     have hadd0 : a.add (0 * ty.w + 0) = a := by simp [Addr.add]
     rw [hadd0] at h0
     unfold World.cell? at h0
     split at h0
     ·rename_i c el fz hblk
      split at h0
      ·cases h0
      ·rename_i hspot
       obtain ⟨ab, ao, as'⟩ := a
       have : as' = none := by cases as' with | none => rfl | some _ => simp at hspot
       subst this
       have cellsAt : ∀ k, k < cap * ty.w → c[ao + k]? = cca[k]? := by
        intro k hk
        have := hca k hk
        rw [show 0 * ty.w + k = k from by omega, Addr.add_lit] at this
        unfold World.cell? at this
        simp only [hblk, Option.isSome_none] at this
        simpa using this
       have hfit : ao + cap * ty.w ≤ c.size := by
        have := cellsAt (cap * ty.w - 1) (by omega)
        rw [List.getElem?_eq_getElem (by omega)] at this
        have := (Array.getElem?_eq_some_iff.1 this).1
        omega
       have hsub : len * ty.w ≤ cap * ty.w := Nat.mul_le_mul_right _ hlc
       have hrl : row.length = len * ty.w := by rw [hl1.1, hcl]
       have hccs : (c.toList.drop ao).take row.length = cc := by
        apply List.ext_getElem?
        intro k
        rw [hrl, List.getElem?_take]
        by_cases hk : k < len * ty.w
        ·rw [if_pos hk, List.getElem?_drop]
         have h1 := hcell k hk
         rw [show 0 * ty.w + k = k from by omega, Addr.add_lit] at h1
         unfold World.cell? at h1
         simp only [hblk, Option.isSome_none] at h1
         rw [← h1]
         simp
        ·rw [if_neg hk, List.getElem?_eq_none (by omega)]
       have hblk' : w.heap[ab]? = some (.cells c el fz) := hblk
       have hab : ab < w.heap.size := (Array.getElem?_eq_some_iff.1 hblk').1
       have hp := hR1.pushRo (row := row) (c := ab) (d := ao) (sz := c.size) hab hab ⟨c, el, fz, hblk', rfl, by omega, (fun h => by cases h), by rw [hccs]; exact hl1⟩
       have hkp := dP.push H1 (.cells true row)
       refine ⟨_, _, l, [.slice (some ⟨H1.size, 0, none⟩) l.length ty.w], hp, fun b y h => Gp hR1 _ b y (hle1 b y h), hk1.trans hkp, LRel.cons ?_ LRel.nil, .inr (.inr ⟨H1.size, row, AH.get_push_new _ _, rfl, hrow.mono (Abs.keep hkp ty), by omega⟩), by rw [hll]; exact hreach, hsm⟩
       rw [hll]
       have := VRel.slice (P := P) (ρ := ρ1.upd H1.size (ab, ao, c.size)) (b := H1.size) (o := 0) (n := len) (e := ty.w) (c := ab) (d := ao) (sz := c.size) (k := cap) (bg.upd_same ..) (by omega) hlc hw
       simpa using this
     ·cases h0
  ·cases ht
 | pair a b iha ihb =>
  have fields : ∀ (fs : List Field) (off : Nat), (m8 P (.pair a b)).2 fs off = true → ∀ (fuel : Nat) (cs : List Value) (ρ : bg) (H : AH), Rel P w w.heap.size ρ H w → cs.length = off + (a.w + b.w) →
   (∀ f ∈ fs, ∃ y, DataW.trod enc P w 0 (fun _ => true) held fuel f.type ((cs.drop f.offset).take (P.cellsOf f.type)) = some y ∧ Za P f.type y.1) → ∃ ρ' H', Got P w ρ H (.pair a b) (cs.drop off) ρ' H' := by
   intro fs off hfs fuel cs ρ H hR hl h
   simp only [m8] at hfs
   cases fs with
   | nil => cases hfs
   | cons f fs =>
    simp only [Bool.and_eq_true, beq_iff_eq] at hfs
    obtain ⟨⟨⟨h1, h2⟩, h3⟩, h4⟩ := hfs
    obtain ⟨y, hy, hwy⟩ := h f (by simp)
    rw [h1, h3] at hy
    obtain ⟨ρ1, H1, x1, a1, hR1, hle1, hk1, hl1, ha1, hs1⟩ := iha.1 f.type h2 fuel _ y ρ H hR hy hwy
    obtain ⟨ρ2, H2, x2, a2, hR2, hle2, hk2, hl2, ha2, hs2⟩ := ihb.2 fs (off + a.w) h4 fuel cs ρ1 H1 hR1 (by omega) (fun g hg => h g (by simp [hg]))
    refine ⟨ρ2, H2, (x1, x2), a1 ++ a2, hR2, fun b y h => hle2 b y (hle1 b y h), hk1.trans hk2, ?_, ⟨a1, a2, rfl, Abs.keep hk2 a x1 a1 ha1, ha2⟩, hs1, hs2⟩
    have e : cs.drop off = (cs.drop off).take a.w ++ cs.drop (off + a.w) := by
     rw [← List.drop_drop]
     exact (List.take_append_drop a.w (cs.drop off)).symm
    rw [e]
    exact (hl1.mono hle2).append hl2
  refine ⟨?_, fields⟩
  intro t ht fuel cs x ρ H hR h hwx
  obtain ⟨n, rfl⟩ := uf h
  have ht' := ht
  simp only [m8] at ht
  split at ht
  ·rename_i fs hu
   simp only [Bool.and_eq_true, beq_iff_eq] at ht
   obtain ⟨xs, n', _, hxe, hlen, hxl, hxs⟩ := DataW.trod_struct hu h
   have := fields fs.toList 0 ht.2 n' cs ρ H hR (by rw [hlen, ht.1]; simp) (fun f hf => by
    obtain ⟨i, hi, rfl⟩ := List.mem_iff_getElem.1 hf
    have := hxs i fs.toList[i] (by simp)
    rw [this]
    have hix : i < xs.length := by rw [hxl]; simpa using hi
    refine ⟨xs[i]'hix, List.getElem?_eq_getElem _, fun n hn => hwx n ?_⟩
    rw [hxe]
    unfold DataW.weights
    rw [hu]
    exact vD (i := i) (by rw [List.getElem?_map, List.getElem?_eq_getElem hi]; rfl) (by rw [List.getElem?_map, List.getElem?_eq_getElem hix]; rfl) hn)
   simpa using this
  ·cases ht
end
def valOf : Ty → List Value → Value
 | .pair _ _, cs => .agg cs.toArray
 | .unit, cs => .agg cs.toArray
 | _, cs => cs.headD undef
abbrev Rc : List Ty → Type
 | [] => Unit
 | t :: ts => t.I × Rc ts
def oJ (H : AH) : (ts : List Ty) → Rc ts → List Value → Prop
 | [], _, vs => vs = []
 | t :: ts, x, vs => ∃ cs rest, vs = valOf t cs :: rest ∧ Abs H t x.1 cs ∧ oJ H ts x.2 rest
theorem oJ.keep {H H' : AH} (k : dP H H') : ∀ (ts : List Ty) (x : Rc ts) (vs : List Value), oJ H ts x vs → oJ H' ts x vs := by
 intro ts
 induction ts with
 | nil => intro x vs h; exact h
 | cons t ts ih =>
  intro x vs h
  obtain ⟨cs, rest, e, h1, h2⟩ := h
  exact ⟨cs, rest, e, Abs.keep k t _ _ h1, ih _ _ h2⟩
def ti : (ts : List Ty) → Rc ts → Prop
 | [], _ => True
 | t :: ts, x => wu t x.1 ∧ ti ts x.2
def oS (P : Program) : List Ty → List TypeId → Bool
 | [], [] => true
 | ty :: tys, t :: ts => (m8 P ty).1 t && P.readableRec t && decide (t < P.types.size) && oS P tys ts
 | _, _ => false
section
variable {Hd : Type} {enc : TypeId × Value → Hd} {P : Program} {w : World} {held : Bool}
theorem WT {ty : Ty} {t : TypeId} (ht : (m8 P ty).1 t = true) {v : Value} {d : DataW Hd} {ps : List MemPlace} {r : Reach} {b0 : Nat} (hval : Value.okWide P w r b0 t v) (h : DataW.Trod enc P w 0 (fun _ => true) held t v d ps) (hwd : Za P t d)
 {ρ : bg} {H : AH} (hR : Rel P w w.heap.size ρ H w) : ∃ ρ' H' x avs, Rel P w w.heap.size ρ' H' w ∧ (∀ b y, ρ b = some y → ρ' b = some y) ∧ dP H H' ∧ VRel P ρ' (valOf ty avs) v ∧ Abs H' ty x avs ∧ wu ty x := by
 obtain ⟨fuel, h⟩ := h
 obtain ⟨ρ', H', x, avs, h1, h2, h3, h4, h5, h6⟩ := (Wg (enc := enc) (P := P) (w := w) (held := held) ty).1 t ht fuel _ _ ρ H hR h hwd
 refine ⟨ρ', H', x, avs, h1, h2, h3, ?_, h5, h6⟩
 have hlen := Abs.length ty x avs h5
 have one : ∀ (hw : ty.w = 1) (hva : ∀ cs, v ≠ .agg cs), VRel P ρ' (avs.headD undef) v := by
  intro hw hva
  have hc : v.cells.toList = [v] := by
   cases v <;> first | rfl | exact absurd rfl (hva _)
  rw [hc] at h4
  match avs, hlen with
  | [a], _ => exact h4.2 0 a v rfl rfl
  | [], hl => rw [hw] at hl; cases hl
  | a :: b :: l, hl => rw [hw] at hl; simp at hl
 cases ty with
 | int k =>
  refine one rfl (fun cs e => ?_)
  subst e
  simp only [m8] at ht
  split at ht
  ·rename_i hu
   unfold Value.okWide at hval
   rw [hu] at hval
   unfold Cell.okWide at hval
   rw [hu] at hval
   unfold Cell.ok at hval
   rw [hu] at hval
   exact hval
  ·cases ht
 | bool =>
  refine one rfl (fun cs e => ?_)
  subst e
  simp only [m8] at ht
  split at ht
  ·rename_i hu
   unfold Value.okWide at hval
   rw [hu] at hval
   unfold Cell.okWide at hval
   rw [hu] at hval
   unfold Cell.ok at hval
   rw [hu] at hval
   exact hval
  ·cases ht
 | slice e =>
  refine one rfl (fun cs e => ?_)
  subst e
  simp only [m8] at ht
  split at ht
  ·rename_i hu
   unfold Value.okWide at hval
   rw [hu] at hval
   unfold Cell.okWide at hval
   rw [hu] at hval
   unfold Cell.ok at hval
   rw [hu] at hval
   exact hval
  ·cases ht
 | unit => simp only [m8] at ht; cases ht
 | pair a b =>
  simp only [m8] at ht
  split at ht
  ·rename_i fs hu
   unfold Value.okWide at hval
   rw [hu] at hval
   obtain ⟨cs, rfl, _⟩ := hval
   have h4 : LRel P ρ' avs cs.toList := h4
   exact .agg (by simpa using h4.1) (fun i x y hx hy => h4.2 i x y (by simpa using hx) (by simpa using hy))
  ·cases ht
theorem Rp : ∀ (tys : List Ty) (ts : List TypeId) (vs : List Value) (ds : List (DataW Hd)) (ps : List MemPlace), oS P tys ts = true → (∀ (j : Nat) t v, ts[j]? = some t → vs[j]? = some v → ∃ r b0, Value.okWide P w r b0 t v) →
 DataW.TrodAll enc P w 0 (fun _ => true) held ts vs ds ps → (∀ n ∈ DataW.weightsEach P ts ds, n ≤ reachBytes) → ∀ (ρ : bg) (H : AH), Rel P w w.heap.size ρ H w →
 ∃ ρ' H' x avs, Rel P w w.heap.size ρ' H' w ∧ (∀ b y, ρ b = some y → ρ' b = some y) ∧ dP H H' ∧ LRel P ρ' avs vs ∧ oJ H' tys x avs ∧ ti tys x := by
 intro tys
 induction tys with
 | nil =>
  intro ts vs ds ps hc hval h hwd ρ H hR
  cases ts with
  | cons t ts => cases hc
  | nil =>
   obtain ⟨rfl, _, _⟩ := trodAll_nil h
   exact ⟨ρ, H, (), [], hR, fun _ _ h => h, dP.refl H, LRel.nil, rfl, trivial⟩
 | cons ty tys ih =>
  intro ts vs ds ps hc hval h hwd ρ H hR
  cases ts with
  | nil => cases hc
  | cons t ts =>
   simp only [oS, Bool.and_eq_true] at hc
   obtain ⟨⟨⟨hc1, _⟩, _⟩, hc2⟩ := hc
   obtain ⟨v, vs', d, ds', p, q, rfl, rfl, rfl, hd, hrest⟩ := trodAll_cons h
   obtain ⟨r, b0, hv0⟩ := hval 0 t v rfl rfl
   obtain ⟨ρ1, H1, x1, a1, hR1, hle1, hk1, hv1, ha1, hs1⟩ := WT hc1 hv0 hd (fun n hn => hwd n (by rw [DataW.weightsEach]; exact List.mem_append_left _ hn)) hR
   obtain ⟨ρ2, H2, x2, a2, hR2, hle2, hk2, hl2, ha2, hs2⟩ := ih ts vs' ds' q hc2 (fun j t v h1 h2 => hval (j + 1) t v (by simpa using h1) (by simpa using h2)) hrest (fun n hn => hwd n (by rw [DataW.weightsEach]; exact List.mem_append_right _ hn)) ρ1 H1 hR1
   exact ⟨ρ2, H2, (x1, x2), valOf ty a1 :: a2, hR2, fun b y h => hle2 b y (hle1 b y h), hk1.trans hk2, LRel.cons (hv1.mono hle2) hl2, ⟨a1, a2, rfl, Abs.keep hk2 ty x1 a1 ha1, ha2⟩, hs1, hs2⟩
theorem NT (hl : laidOutB P = true) {W' : World} (hb : Below w.heap.size w W') : ∀ (tys : List Ty) (ts : List TypeId) (vs : List Value) (ds : List (DataW Hd)) (ps : List MemPlace), oS P tys ts = true → (∀ x ∈ ps, x.block < w.heap.size) →
 DataW.TrodAll enc P w 0 (fun _ => true) true ts vs ds ps → DataW.TrodAll enc P W' 0 (fun b => decide (b < w.heap.size)) true ts vs ds ps := by
 intro tys
 induction tys with
 | nil =>
  intro ts vs ds ps hc hlt h
  cases ts with
  | cons t ts => cases hc
  | nil =>
   obtain ⟨rfl, rfl, rfl⟩ := trodAll_nil h
   exact trodAll_mk0
 | cons ty tys ih =>
  intro ts vs ds ps hc hlt h
  cases ts with
  | nil => cases hc
  | cons t ts =>
   simp only [oS, Bool.and_eq_true, decide_eq_true_eq] at hc
   obtain ⟨⟨⟨_, hc1⟩, hc3⟩, hc2⟩ := hc
   obtain ⟨v, vs', d, ds', p, q, rfl, rfl, rfl, hd, hrest⟩ := trodAll_cons h
   exact ⟨p, q, Below.trod hl hc1 hc3 hd hb (fun x hx => hlt x (by simp [hx])), ih ts vs' ds' q hc2 (fun x hx => hlt x (by simp [hx])) hrest, rfl⟩
theorem law_post (hm : P.follows .mixedOrders = true) (hl : laidOutB P = true) {G : List Nat} {f : Nat} {fn : Func} {s : ChangeSpec} {tys : List Ty} (hc : oS P tys fn.params.toList = true)
 {tb : TypeId} (hres : fn.resultTypes = #[tb]) (hb : P.underlying tb = some .bool) (hvars : s.vars = [])
 {args : Array Value} {ds gs : List (DataW Hd)} {before : List MemPlace} (hval : ∀ (j : Nat) t v, fn.params[j]? = some t → args[j]? = some v → ∃ r b0, Value.okWide P w r b0 t v)
 (hW : DataW.Whole enc P fn.params.toList s.vars false w args.toList ds gs before) (hspec : s.fn Hd (ds ++ gs) = { results := [.lit (.bool true)], args := ds })
 {ρ0 : bg} {H0 : AH} (hR : Rel P w w.heap.size ρ0 H0 w) (hG : GlobRel ρ0 G)
 (hwt : (DataW.weightsEach P fn.params.toList ds).all (· ≤ reachBytes) = true)
 (run : ∀ (x : Rc tys) (avs : List Value) (H : AH), dP H0 H → oJ H tys x avs → ti tys x → ∃ H', aF P G f avs H = some (.bool true, H')) :
 Calls P f args w fun e w' => ∃ v, e = .returned v ∧ s.post enc P fn false true false false w args v w' := by
 have hW' := hW
 obtain ⟨p, q, hA, hV, rfl, hfz, hnd⟩ := hW
 rw [hvars] at hV
 obtain ⟨rfl, rfl⟩ := trodVars_none hV
 obtain ⟨ρ1, H1, x, avs, hR1, hle1, hk1, hl1, ha1, hs1⟩ := Rp tys fn.params.toList args.toList ds p hc (fun j t v h1 h2 => hval j t v (by simpa using h1) (by simpa using h2)) hA (fun n hn => by simpa using List.all_eq_true.1 hwt n hn) ρ0 H0 hR
 obtain ⟨H', hrun⟩ := run x avs H1 hk1 ha1 hs1
 have hG1 : GlobRel ρ1 G := fun g hg => let ⟨sz, h⟩ := hG g hg; ⟨sz, hle1 _ _ h⟩
 have hcall := ((aa1 (P := P) (G := G) hm).1 f avs H1 _ H' hrun).2 w w.heap.size ρ1 w args.toList hR1 hG1 hl1
 rw [show args.toList.toArray = args from by simp] at hcall
 refine hcall.mono fun e w' ⟨v', ρ', he, hv, hext, hR'⟩ => ?_
 have hv : v' = .bool true := by
  cases hv with
  | lit h => rfl
 subst hv
 subst he
 have hlt : ∀ y ∈ p, y.block < w.heap.size := fun y hy => by
  have := hW'.lt y (by simp [hy])
  simpa using this
 refine ⟨_, rfl, ds, [], p ++ [], [], p, [], hW', ?_, ?_, ?_, ?_, fun h => by cases h⟩
 ·rw [hspec, hres]
  exact ⟨[], [], shut_bool hb true, trodAll_mk0, rfl⟩
 ·rw [hspec]
  exact NT hl hR'.below tys _ _ _ _ hc hlt hA
 ·rw [hvars, hspec]
  rfl
 ·exact hR'.below.frame _
end
theorem rel_none (P : Program) (w : World) : Rel P w w.heap.size (fun _ => none) ⟨[]⟩ w where
 base := Nat.le_refl _
 below := Below.refl _ _
 dom := fun b x h => by cases h
 blk := fun b c d sz h => by cases h
 obj := fun b c d sz o h => by cases h
 own := fun b c d sz o h => by cases h
 ro := fun b c d sz cs h => by cases h
 inj := fun b b' c d d' sz sz' o o' h => by cases h
end Go.Proofs.YtodpbobjmkhcfaaGreatDoor.Gst
namespace Go.Proofs.YtodpbobjmkhcfaaGreatDoor.Gst
open Go Go.RowKit
set_option maxRecDepth 100000
set_option linter.unusedVariables false
set_option maxHeartbeats 1000000
set_option linter.unusedSimpArgs false
noncomputable abbrev PP : Program := Tryz.prog
def GG : List Nat := [0]
noncomputable abbrev FF : be := aF PP GG
noncomputable abbrev CQ (c : Code) (kn : KK) (kx : KX) (kr : KK) : KK := CK PP GG FF c kn kx kr
noncomputable abbrev tf (c : Code) (kx : KX) (kr : KK) : KK := CL PP GG FF c kx kr
def iy : Nat := 5
def qt : Nat := 9
def n4 : Nat := 10
def fy : Nat := 11
def dr : Nat := 12
def pf : Nat := 13
def lH : Nat := 14
def ME : Nat := 15
def jR : Nat := 16
def mo : Nat := 17
def UM : Nat := 19
def dm : Nat := 21
def cQ : Nat := 22
def eN : Nat := 23
def kY : Nat := 30
def n5 : Nat := 31
def jX : Nat := 32
def jS : Nat := 33
def fi : Nat := 34
def jQ : Nat := 35
def UR : Nat := 36
def UT : Nat := 37
def cJ : Nat := 38
def kB : Nat := 39
def dL : Nat := 40
def ig : Nat := 41
def lg : Nat := 42
def de : Nat := 43
def qu : Nat := 44
def dY : Nat := 48
def fA : Nat := 49
def bF : Nat := 50
def kX : Nat := 55
def tM : Nat := 56
def n3 : Nat := 57
def n9 : Nat := 58
def qv : Nat := 59
def qq : Nat := 60
def jW : Nat := 61
def jY : Nat := 62
def la : Nat := 63
def k7 : Nat := 64
def kZ : Nat := 65
def fW : Nat := 66
def il : Nat := 67
def gC : Nat := 68
def iZ : Nat := 69
def gi : Nat := 70
def ic : Nat := 71
def UU : Nat := 72
def hM : Nat := 73
def UQ : Nat := 74
def n0 : Nat := 75
def kW : Nat := 76
def gA : Nat := 77
def eb : Nat := 78
def ce : Nat := 79
def MF : Nat := 80
def im : Nat := 81
def fZ : Nat := 82
def iW : Nat := 83
def fL : Nat := 84
def bA : Nat := 85
def fJ : Nat := 86
def ez : Nat := 87
def fI : Nat := 88
def ip : Nat := 89
def jZ : Nat := 90
def dC : Nat := 91
def fK : Nat := 92
def gz : Nat := 93
def YZ : Nat := 94
def UP : Nat := 95
def gv : Nat := 99
def dz : Nat := 100
def yB : Nat := 101
def bD : Nat := 102
def fY : Nat := 103
def iX : Nat := 106
def dB : Nat := 118
def bd : Nat := 119
def n6 : Nat := 120
def qw : Nat := 121
def sn : Nat := 122
def sm : Nat := 123
def UN : Nat := 124
def dU : Nat := 125
def qx : Nat := 126
def lc : Nat := 127
def cY : Nat := 128
def jc : Nat := 129
def dV : Nat := 130
def jo : Nat := 131
def jl : Nat := 132
def sj : Nat := 133
def bf : Nat := 134
def eM : Nat := 135
def cq : Nat := 136
def MG : Nat := 137
def AV : Nat := 138
def gt : Nat := 139
def UO : Nat := 140
def io : Nat := 141
def eA : Nat := 142
def iY : Nat := 143
def cR : Nat := 144
def cZ : Nat := 145
def fH : Nat := 146
def fG : Nat := 147
def iV : Nat := 148
def ij : Nat := 149
def ik : Nat := 150
def cA : Nat := 151
def dM : Nat := 152
def iq : Nat := 153
def mp : Nat := 155
def cS : Nat := 156
def f0 : Nat := 160
def qy : Nat := 164
def n8 : Nat := 165
def n7 : Nat := 174
def fX : Nat := 175
def f2 : Nat := 176
def fj : Nat := 177
def gy : Nat := 178
def bC : Nat := 179
def dc : Nat := 180
def US : Nat := 181
def jV : Nat := 182
def dA : Nat := 183
def eZ : Nat := 184
def oc : Nat := 185
def dg : Nat := 186
def jU : Nat := 187
def iz : Nat := 190
def oa : Nat := 195
def qr : Nat := 196
def cz : Nat := 211
def jT : Nat := 212
def eW : Nat := 213
def jm : Nat := 214
def dd : Nat := 215
def FV : Nat := 216
def gD : Nat := 217
def eC : Nat := 221
def mq : Nat := 224
def eR : Nat := 253
def eO : Nat := 254
def lK : Nat := 255
def ia : Nat := 256
def hZ : Nat := 257
def d9 : Nat := 259
def dy : Nat := 276
def ec : Nat := 277
def lJ : Nat := 278
def fh : Nat := 279
def jr : Nat := 280
def dx : Nat := 287
def kC : Nat := 288
def sk : Nat := 289
def jq : Nat := 290
def ji : Nat := 291
def jk : Nat := 292
def dX : Nat := 293
def i0 : Nat := 294
def eS : Nat := 295
def d8 : Nat := 296
def ie : Nat := 297
def cr : Nat := 298
def cM : Nat := 299
def gu : Nat := 300
def jn : Nat := 301
def fU : Nat := 302
def jp : Nat := 303
def fV : Nat := 304
def lI : Nat := 305
noncomputable def zS (p : List Nat) : Code := Code.sub (bJ Tryz.f9) p
noncomputable def ya : KK := ei PP (Tryz.f9).results.toList
noncomputable def YK : KK := CQ (zS [1, 1, 1, 1, 1]) ya bx ya
noncomputable def uz (x1 x2 x4 x5 x8 : Value) (H : AH) : OV := YK (ls [u, x1, x2, u, x4, x5, u, u, x8] 79) H
noncomputable def Uf : KK := CQ (zS [1, 1, 1, 1, 1, 1]) ya bx ya
noncomputable def YI : KK := dv 309485009821345068724780751 Uf
noncomputable def uA (x4 x5 x8 : Value) (H : AH) : OV := Uf (ls [u, u, u, u, x4, x5, u, u, x8] 79) H
noncomputable def YL : KK := CQ (zS [1, 1, 1, 1, 1, 0, 1]) YI bx ya
noncomputable def uB (x1 x2 x4 x5 x8 x9 : Value) (H : AH) : OV := YL (ls [u, x1, x2, u, x4, x5, u, u, x8, x9] 78) H
noncomputable def Uj : KX := BX 0 YI bx
noncomputable def Mo : KX := py 309485009821345068724780751 Uj
noncomputable def Ug : KK := tf (zS [1, 1, 1, 1, 1, 0, 1, 4, 5]) Mo ya
noncomputable def YJ : KK := dv 309485009821345068724780233 Ug
noncomputable def kw (x1 x2 x4 x5 x8 x9 : Value) (H : AH) : OV := Ug (ls [u, x1, x2, u, x4, x5, u, u, x8, x9] 78) H
noncomputable def YM : KK := CQ (zS [1, 1, 1, 1, 1, 0, 1, 4, 5, 1]) YJ Mo ya
noncomputable def uC (x1 x2 x4 x5 x8 x9 : Value) (H : AH) : OV := YM (ls [u, x1, x2, u, x4, x5, u, u, x8, x9] 78) H
noncomputable def Uh : KK := CQ (zS [1, 1, 1, 1, 1, 0, 1, 4, 5, 1, 1]) YJ Mo ya
noncomputable def aa7 : KK := dv 309485009821345068724780233 Uh
noncomputable def nY (x1 x2 x4 x5 x8 x9 : Value) (H : AH) : OV := Uh (ls [u, x1, x2, u, x4, x5, u, u, x8, x9] 78) H
noncomputable def ZR : KX := BX 1 aa7 Mo
noncomputable def pR (x4 x5 x8 : Value) (H : AH) : OV := Uj 0 (ls [u, u, u, u, x4, x5, u, u, x8] 79) H
theorem nE : au 309485009821345068724781007 ya := rf
theorem XD : au 309485009821345068724780745 YK := rc nE aC nE
theorem CV : au 309485009821345068724780751 Uf := rc nE aC nE
theorem XE : au 309485009821345068724780233 YL := rc (cd CV) aC nE
theorem rM : ∀ i, au 309485009821345068724780751 (Uj i) := rb (cd CV) aC
theorem vY : au 309485009821345068724780233 Ug := rl (cx rM) nE
theorem XF : au 309485009821345068724780233 YM := rc (cd vY) (cx rM) nE
theorem Mn : au 309485009821345068724780233 Uh := rc (cd vY) (cx rM) nE
theorem Ui : ∀ i, au 309485009821345068724780233 (ZR i) := rb (cd Mn) (cx rM)
theorem ym (x4 x5 x8 : Value) (H : AH) : uA x4 x5 x8 H =
 (aA 2 x8 H).bind fun v2 =>
 (cW 2 x4 v2 H).bind fun H3 =>
 (aA 2 x4 H3).bind fun v4 => some (Value.tuple #[v4, (vb true)], H3) :=
 (by kernel_rfl)
theorem yp (x1 x2 x4 x5 x8 x9 : Value) (H : AH) : nY x1 x2 x4 x5 x8 x9 H =
 (aj .other .add x9 (vi 1)).bind fun v10 =>
 kw x1 x2 x4 x5 x8 v10 H :=
 (by kernel_rfl)
theorem yo (x1 x2 x4 x5 x8 x9 : Value) (H : AH) : uC x1 x2 x4 x5 x8 x9 H =
 ld [.f 0] x2 H fun v12 =>
 (aj .other .quo x9 v12).bind fun v13 =>
 ld [.f 1] x2 H fun v14 =>
 (aj .other .lss v13 v14).bind fun v15 =>
 (gB v15 true (aA 2 x8 H)).bind fun v16 =>
 (gV v15 true x9).bind fun v17 =>
 (gV v15 true x9).bind fun v18 =>
 (gB v15 true (aj .other .add (vi 1) v18)).bind fun v19 =>
 (gV v15 true x9).bind fun v20 =>
 (gB v15 true (aj .other .rem v20 (vi 2))).bind fun v21 =>
 (gB v15 true (aj .other .add (vi 2) v21)).bind fun v22 =>
 (gE v15 true H (FF jS [v16, v17, v19, v22] H)).bind fun r23 =>
 (gB v15 true (pi .not r23.1)).bind fun v24 =>
 (aS v15 v24 (vb false)).bind fun v25 =>
 ax v25
 (gk [(0, 1), (1, 1)] [(.pointer none), (.pointer none)] [] fun v26 =>
 (cW 2 x4 v26 r23.2).bind fun H27 =>
 (aA 2 x4 H27).bind fun v28 => some (Value.tuple #[v28, (vb false)], H27))
 (nY x1 x2 x4 x5 x8 x9 r23.2) :=
 (pt rfl 0 Mn (bt rfl (zS [1, 1, 1, 1, 1, 0, 1, 4, 5, 1, 0, 4]) 1 Ui (by kernel_rfl)))
theorem tG (x4 x5 x8 : Value) (H : AH) : pR x4 x5 x8 H = uA x4 x5 x8 H :=
 (by kernel_rfl)
theorem nX (x1 x2 x4 x5 x8 x9 : Value) (H : AH) : kw x1 x2 x4 x5 x8 x9 H =
 (aj .other .lss x9 x1).bind fun v29 =>
 ax v29
 (uC x1 x2 x4 x5 x8 x9 H)
 (pR x4 x5 x8 H) :=
 th rfl vY (pt rfl 0 XF (by kernel_rfl))
theorem yn (x1 x2 x4 x5 x8 x9 : Value) (H : AH) : uB x1 x2 x4 x5 x8 x9 H =
 kw x1 x2 x4 x5 x8 x9 H :=
 (bt rfl (zS [1, 1, 1, 1, 1, 0, 1, 4]) 0 rM (li rfl (zS [1, 1, 1, 1, 1, 0, 1, 4, 5]) vY (by kernel_rfl)))
theorem yl (x1 x2 x4 x5 x8 : Value) (H : AH) : uz x1 x2 x4 x5 x8 H =
 uB x1 x2 x4 x5 x8 (vi 0) H :=
 (pt rfl 0 CV (pt rfl 0 XE (by kernel_rfl)))
noncomputable def Ut (x0 x1 : Value) (H : AH) : OV := aW PP GG FF (zS []) (ls [x0, x1] 86) H ya bx ya
theorem FN (x0 x1 : Value) (H : AH) {r : Value × AH} (h : (
 aY (Value.cells x0).toList H fun v30 H31 =>
 aY [(.pointer none), (.pointer none)] H31 fun v32 H33 =>
 (aA 5 v30 H33).bind fun v34 =>
 (FF kY [v34] H33).bind fun r35 =>
 (cW 5 v30 r35.1 r35.2).bind fun H36 =>
 (aA 5 v30 H36).bind fun v37 =>
 (FF n5 [v37] H36).bind fun r38 =>
 (ai r38.1 0).bind fun v39 =>
 (ai r38.1 1).bind fun v40 =>
 (aj .other .neq v40 (vi 0)).bind fun v41 =>
 (gV v41 false v39).bind fun v42 =>
 (gB v41 false (aj .ptr .eql v42 (.pointer none))).bind fun v43 =>
 (aS v41 (vb true) v43).bind fun v44 =>
 (gV v44 false v39).bind fun v45 =>
 fp v44 false  [.n, .f 0] v45 r38.2 fun v46 =>
 (gB v44 false (aj .ptr .eql v46 (.pointer none))).bind fun v47 =>
 (aS v44 (vb true) v47).bind fun v48 =>
 (gV v48 false v39).bind fun v49 =>
 fp v48 false  [.n, .f 1] v49 r38.2 fun v50 =>
 (gB v48 false (aj .ptr .eql v50 (.pointer none))).bind fun v51 =>
 (aS v48 (vb true) v51).bind fun v52 =>
 (gV v52 false v39).bind fun v53 =>
 fp v52 false  [.n, .f 2] v53 r38.2 fun v54 =>
 (gB v52 false (aj .ptr .eql v54 (.pointer none))).bind fun v55 =>
 (aS v52 (vb true) v55).bind fun v56 =>
 (gV v56 false v39).bind fun v57 =>
 fp v56 false  [.n, .f 3] v57 r38.2 fun v58 =>
 (gB v56 false (aj .ptr .eql v58 (.pointer none))).bind fun v59 =>
 (aS v56 (vb true) v59).bind fun v60 =>
 (gV v60 false v39).bind fun v61 =>
 fp v60 false  [.n, .f 4] v61 r38.2 fun v62 =>
 (gB v60 false (aj .ptr .eql v62 (.pointer none))).bind fun v63 =>
 (aS v60 (vb true) v63).bind fun v64 =>
 ax v64
 (gk [(0, 1), (1, 1)] [(.pointer none), (.pointer none)] [] fun v65 =>
 (cW 2 v32 v65 r38.2).bind fun H66 =>
 (aA 2 v32 H66).bind fun v67 => some (Value.tuple #[v67, (vb false)], H66))
 ((aA 5 v30 r38.2).bind fun v68 =>
 (FF jX [v68] r38.2).bind fun r69 =>
 gk [(0, 1), (1, 1)] [(.pointer none), (.pointer none)] [(0, v39), (1, r69.1)] fun v70 =>
 aY [(.pointer none), (.pointer none)] r69.2 fun v71 H72 =>
 (cW 2 v71 v70 H72).bind fun H73 =>
 uz x1 v30 v32 (vb false) v71 H73)) = some r) : FF qt [x0, x1] H = some r :=
 fo (t := Ut x0 x1 H) Tryz.func9 (by kernel_rfl) (Eq.trans (pt rfl 4 XD (by kernel_rfl)) h)
theorem yz (x0 : Value) (H : AH) {r : Value × AH} (h : (
 ld [.n, .f 1] x0 H fun v0 =>
 iN v0 fun v1 =>
 some (v1, H)) = some r) : FF fy [x0] H = some r :=
 fo Tryz.func11 (by kernel_rfl) h
theorem od (x0 x1 x2 : Value) (H : AH) {r : Value × AH} (h : (
 ld [.n, .f 11] x0 H fun v0 =>
 (dh .int v0 x1 x2 H).bind fun H1 =>
 some (Value.tuple #[], H1)) = some r) : FF dr [x0, x1, x2] H = some r :=
 fo Tryz.func12 (by kernel_rfl) h
theorem HP (x0 x1 x2 : Value) (H : AH) {r : Value × AH} (h : (
 aY (Value.cells x2).toList H fun v0 H1 =>
 (aA 4 v0 H1).bind fun v2 =>
 ld [.n, .f 2] x0 H1 fun v3 =>
 ld [.f 1] v0 H1 fun v4 =>
 (FF fi [v3, v4] H1).bind fun r5 =>
 bE (aA 4 v0 r5.2) (aA 4 v0 H1) <|
 gk [(0, 1), (1, 1), (2, 4), (6, 1), (7, 1), (8, 1), (9, 1), (10, 1), (11, 1), (12, 1), (13, 1), (14, 1), (15, 1)] [(.pointer none), (vi 0), (vi 0), (vi 0), (vi 0), (vi 0), (vi 0), Value.nilFunc, (vi 0), (vi 0), (vb false), (.pointer none), (vw 0), (vw 0), (vi 0), (vw 0)] [(0, x0), (1, x1), (2, v2), (3, r5.1)] fun v6 =>
 aY (Value.cells v6).toList r5.2 fun v7 H8 =>
 st 1 [.n, .f 7] v7 (.func (.func jQ) #[v7] #[]) H8 fun H9 =>
 some (v7, H9)) = some r) : FF pf [x0, x1, x2] H = some r :=
 fo Tryz.func13 (by kernel_rfl) h
theorem Hz (x0 x1 : Value) (H : AH) {r : Value × AH} (h : (
 aY [(vi 0), (.slice none 0 0), (vi 0), (vw 0)] H fun v0 H1 =>
 ld [.n, .f 7] x0 H1 fun v2 =>
 (bN v2 [x1]).bind fun c => (FF c.1 c.2 H1).bind fun r3 =>
 (ai r3.1 0).bind fun v4 =>
 (ai r3.1 1).bind fun v5 =>
 (cW 4 v0 v4 r3.2).bind fun H6 =>
 (aA 4 v0 H6).bind fun v7 => some (Value.tuple #[v7, v5], H6)) = some r) : FF lH [x0, x1] H = some r :=
 fo Tryz.func14 (by kernel_rfl) h
noncomputable def pN (p : List Nat) : Code := Code.sub (bJ Tryz.f15) p
noncomputable def nr : KK := ei PP (Tryz.f15).results.toList
noncomputable def Sa : KK := CQ (pN [1, 1, 1, 1]) nr bx nr
noncomputable def U3 (x2 x3 x4 : Value) (H : AH) : OV := Sa (ls [u, u, x2, x3, x4] 25) H
noncomputable def It : KK := CQ (pN [1, 1, 1, 1, 1]) nr bx nr
noncomputable def R8 : KK := dv 1073741803 It
noncomputable def U4 (x2 x4 : Value) (H : AH) : OV := It (ls [u, u, x2, u, x4] 25) H
noncomputable def Sc : KK := CQ (pN [1, 1, 1, 1, 0, 1]) R8 bx nr
noncomputable def U5 (x2 x4 x14 x15 x16 : Value) (H : AH) : OV := Sc (ls [u, u, x2, u, x4, u, u, u, u, u, u, u, u, u, x14, x15, x16] 13) H
noncomputable def Iw : KX := BX 0 R8 bx
noncomputable def Ch : KX := py 1073741803 Iw
noncomputable def Iu : KK := tf (pN [1, 1, 1, 1, 0, 1, 4, 5]) Ch nr
noncomputable def R9 : KK := dv 1073627115 Iu
noncomputable def Dd (x2 x4 x14 x15 x16 : Value) (H : AH) : OV := Iu (ls [u, u, x2, u, x4, u, u, u, u, u, u, u, u, u, x14, x15, x16] 13) H
noncomputable def Se : KK := CQ (pN [1, 1, 1, 1, 0, 1, 4, 5, 1, 1]) R9 Ch nr
noncomputable def U6 (x2 x4 x14 x15 x16 : Value) (H : AH) : OV := Se (ls [u, u, x2, u, x4, u, u, u, u, u, u, u, u, u, x14, x15, x16] 13) H
noncomputable def Iv : KK := CQ (pN [1, 1, 1, 1, 0, 1, 4, 5, 1, 1, 1]) R9 Ch nr
noncomputable def Zw : KK := dv 1073627115 Iv
noncomputable def U7 (x2 x4 x14 x15 x16 : Value) (H : AH) : OV := Iv (ls [u, u, x2, u, x4, u, u, u, u, u, u, u, u, u, x14, x15, x16] 13) H
noncomputable def Zx : KX := BX 1 Zw Ch
noncomputable def F1 (x2 x4 : Value) (H : AH) : OV := Iw 0 (ls [u, u, x2, u, x4] 25) H
theorem km : au 1073741819 nr := rf
theorem Sb : au 1073741795 Sa := rc km aC km
theorem xG : au 1073741803 It := rc km aC km
theorem Sd : au 1073627115 Sc := rc (cd xG) aC km
theorem nt : ∀ i, au 1073741803 (Iw i) := rb (cd xG) aC
theorem rz : au 1073627115 Iu := rl (cx nt) km
theorem Sf : au 1073627115 Se := rc (cd rz) (cx nt) km
theorem Fj : au 1073627115 Iv := rc (cd rz) (cx nt) km
theorem Sg : ∀ i, au 1073627115 (Zx i) := rb (cd Fj) (cx nt)
theorem PG (x2 x4 : Value) (H : AH) : U4 x2 x4 H =
 some (x4, H) :=
 (by kernel_rfl)
theorem PJ (x2 x4 x14 x15 x16 : Value) (H : AH) : U7 x2 x4 x14 x15 x16 H =
 (aj .other .add x16 (vi 1)).bind fun v7 =>
 Dd x2 x4 x14 x15 v7 H :=
 (by kernel_rfl)
theorem PI (x2 x4 x14 x15 x16 : Value) (H : AH) : U6 x2 x4 x14 x15 x16 H =
 ldN 7 [.i 7 x16] x14 H fun v9 =>
 aY [(vi 0), (vi 0), (vi 0), (vi 0), (.slice none 0 0), (vi 0), (vw 0)] H fun v10 H11 =>
 (cW 7 v10 v9 H11).bind fun H12 =>
 ldN 4 [.f 3] v10 H12 fun v13 =>
 (FF kB [v13] H12).bind fun r14 =>
 st 4 [.f 3] v10 r14.1 r14.2 fun H15 =>
 (aA 7 v10 H15).bind fun v16 =>
 zY 1 7 [(vi 0), (vi 0), (vi 0), (vi 0), (.slice none 0 0), (vi 0), (vw 0)] [(0, v16)] H15 fun v17 H18 =>
 (dN 7 72 x4 v17 H18).bind fun r19 =>
 U7 x2 r19.1 x14 x15 x16 r19.2 :=
 (pt rfl 0 Fj (bt rfl (pN [1, 1, 1, 1, 0, 1, 4, 5, 1, 1, 0, 4]) 1 Sg (by kernel_rfl)))
theorem F2 (x2 x4 : Value) (H : AH) : F1 x2 x4 H = U4 x2 x4 H :=
 (by kernel_rfl)
theorem AZ (x2 x4 x14 x15 x16 : Value) (H : AH) : Dd x2 x4 x14 x15 x16 H =
 (aj .other .lss x16 x15).bind fun v20 =>
 ax v20
 (U6 x2 x4 x14 x15 x16 H)
 (F1 x2 x4 H) :=
 th rfl rz (pt rfl 1 Sf (by kernel_rfl))
theorem PH (x2 x4 x14 x15 x16 : Value) (H : AH) : U5 x2 x4 x14 x15 x16 H =
 Dd x2 x4 x14 x15 x16 H :=
 (bt rfl (pN [1, 1, 1, 1, 0, 1, 4]) 0 nt (li rfl (pN [1, 1, 1, 1, 0, 1, 4, 5]) rz (by kernel_rfl)))
theorem PF (x2 x3 x4 : Value) (H : AH) : U3 x2 x3 x4 H =
 iN x3 fun v21 =>
 U5 x2 x4 x3 v21 (vi 0) H :=
 (pt rfl 0 xG (pt rfl 0 Sd (by kernel_rfl)))
noncomputable def pPP (x0 : Value) (H : AH) : OV := aW PP GG FF (pN []) (ls [x0] 29) H nr bx nr
theorem ZY (x0 : Value) (H : AH) {r : Value × AH} (h : (
 ld [.n, .f 12] x0 H fun v22 =>
 (FF UR [v22] H).bind fun r23 =>
 (FF UT [r23.1, (.func (.func cJ) #[] #[])] r23.2).bind fun r24 =>
 U3 (.slice none 0 0) r23.1 (.slice none 0 0) r24.2) = some r) : FF ME [x0] H = some r :=
 fo (t := pPP x0 H) Tryz.func15 (by kernel_rfl) (Eq.trans (pt rfl 3 Sb (by kernel_rfl)) h)
theorem FI (x0 x1 : Value) (H : AH) {r : Value × AH} (h : (
 aY (Value.cells x0).toList H fun v0 H1 =>
 aY (Value.cells x1).toList H1 fun v2 H3 =>
 ld [.f 0] v0 H3 fun v4 =>
 ld [.f 0] v2 H3 fun v5 =>
 (aj .other .eql v4 v5).bind fun v6 =>
 fp v6 true  [.f 2] v0 H3 fun v7 =>
 fp v6 true  [.f 2] v2 H3 fun v8 =>
 (gB v6 true (aj .other .eql v7 v8)).bind fun v9 =>
 (aS v6 v9 (vb false)).bind fun v10 =>
 fp v10 true  [.f 3] v0 H3 fun v11 =>
 fp v10 true  [.f 3] v2 H3 fun v12 =>
 (gB v10 true (aj .other .eql v11 v12)).bind fun v13 =>
 (aS v10 v13 (vb false)).bind fun v14 =>
 fp v14 true  [.f 1] v0 H3 fun v15 =>
 fp v14 true  [.f 1] v2 H3 fun v16 =>
 (gE v14 true H3 (FF dL [v15, v16] H3)).bind fun r17 =>
 (aS v14 r17.1 (vb false)).bind fun v18 =>
 some (v18, r17.2)) = some r) : FF jR [x0, x1] H = some r :=
 fo Tryz.func16 (by kernel_rfl) h
theorem zV (x0 x1 : Value) (H : AH) {r : Value × AH} (h : (
 aY (Value.cells x0).toList H fun v0 H1 =>
 aY (Value.cells x1).toList H1 fun v2 H3 =>
 ld [.f 0] v0 H3 fun v4 =>
 ld [.f 0] v2 H3 fun v5 =>
 (aj .other .eql v4 v5).bind fun v6 =>
 fp v6 true  [.f 1] v0 H3 fun v7 =>
 fp v6 true  [.f 1] v2 H3 fun v8 =>
 (gB v6 true (aj .other .eql v7 v8)).bind fun v9 =>
 (aS v6 v9 (vb false)).bind fun v10 =>
 fp v10 true  [.f 2] v0 H3 fun v11 =>
 fp v10 true  [.f 2] v2 H3 fun v12 =>
 (gB v10 true (aj .other .eql v11 v12)).bind fun v13 =>
 (aS v10 v13 (vb false)).bind fun v14 =>
 kU v14 true  4 [.f 3] v0 H3 fun v15 =>
 kU v14 true  4 [.f 3] v2 H3 fun v16 =>
 (gE v14 true H3 (FF jR [v15, v16] H3)).bind fun r17 =>
 (aS v14 r17.1 (vb false)).bind fun v18 =>
 some (v18, r17.2)) = some r) : FF mo [x0, x1] H = some r :=
 fo Tryz.func17 (by kernel_rfl) h
theorem F8 (x0 x1 : Value) (H : AH) {r : Value × AH} (h : (
 (bz (some .u64) x0).bind fun v0 =>
 (bz (some .u64) x1).bind fun v1 =>
 (aj .other .rem v0 v1).bind fun v2 =>
 (bz (some .i64) v2).bind fun v3 =>
 some (v3, H)) = some r) : FF dm [x0, x1] H = some r :=
 fo Tryz.func21 (by kernel_rfl) h
noncomputable def Su (p : List Nat) : Code := Code.sub (bJ Tryz.f30) p
noncomputable def xL : KK := ei PP (Tryz.f30).results.toList
noncomputable def Sw : KK := CQ (Su [1, 1]) xL bx xL
noncomputable def oh (x1 x2 x3 : Value) (H : AH) : OV := Sw (ls [u, x1, x2, x3] 29) H
noncomputable def Sy : KK := CQ (Su [1, 1, 1]) xL bx xL
noncomputable def gJ (x1 x2 x3 : Value) (H : AH) : OV := Sy (ls [u, x1, x2, x3] 29) H
theorem vT : au 8589934587 xL := rf
theorem Sx : au 8589934577 Sw := rc vT aC vT
theorem Sz : au 8589934577 Sy := rc vT aC vT
theorem sA (x1 x2 x3 : Value) (H : AH) : gJ x1 x2 x3 H =
 ld [.f 0] x1 H fun v2 =>
 (FF dm [v2, (vi 4)] H).bind fun r3 =>
 (aj .other .add (vi 1) r3.1).bind fun v4 =>
 ad [.f 1] x1 fun v5 =>
 (ar v5 r3.2).bind fun v6 =>
 bE (ar v5 H) (ar v5 r3.2) <|
 (FF dm [v6, (vi 4)] r3.2).bind fun r7 =>
 (aj .other .add (vi 1) r7.1).bind fun v8 =>
 ad [.f 2] x1 fun v9 =>
 (ar v9 r7.2).bind fun v10 =>
 bE (ar v9 H) (ar v9 r7.2) <|
 bE (ar v9 r3.2) (ar v9 r7.2) <|
 (FF dm [v10, (vi 6)] r7.2).bind fun r11 =>
 (aj .other .add (vi 1) r11.1).bind fun v12 =>
 ad [.f 3] x1 fun v13 =>
 (ar v13 r11.2).bind fun v14 =>
 bE (ar v13 H) (ar v13 r11.2) <|
 bE (ar v13 r3.2) (ar v13 r11.2) <|
 bE (ar v13 r7.2) (ar v13 r11.2) <|
 (FF dm [v14, (vi 12)] r11.2).bind fun r15 =>
 gk [(0, 1), (1, 1), (2, 1), (3, 1), (4, 1)] [(vi 0), (vi 0), (vi 0), (vi 0), (vw 0)] [(0, v4), (1, v8), (2, v12), (3, r15.1), (4, x3)] fun v16 =>
 (cW 5 x2 v16 r15.2).bind fun H17 =>
 (aA 5 x2 H17).bind fun v18 => some (v18, H17) :=
 (by kernel_rfl)
theorem sy (x1 x2 x3 : Value) (H : AH) : oh x1 x2 x3 H =
 ld [.f 4] x1 H fun v19 =>
 (aj .other .rem v19 (vw 4)).bind fun v20 =>
 (aj .other .eql v20 (vw 3)).bind fun v21 =>
 ax v21
 (ld [.f 4] x1 H fun v22 =>
 (aj .other .rem v22 (vw 4611686018427387904)).bind fun v23 =>
 (aj .other .add (vw 1) v23).bind fun v24 =>
 gJ x1 x2 v24 H)
 (gJ x1 x2 x3 H) :=
 (pt rfl 0 Sz (by kernel_rfl))
noncomputable def F7 (x0 : Value) (H : AH) : OV := aW PP GG FF (Su []) (ls [x0] 32) H xL bx xL
theorem yG (x0 : Value) (H : AH) {r : Value × AH} (h : (
 aY (Value.cells x0).toList H fun v25 H26 =>
 aY [(vi 0), (vi 0), (vi 0), (vi 0), (vw 0)] H26 fun v27 H28 =>
 ld [.f 4] v25 H28 fun v29 =>
 (aj .other .rem v29 (vw 5000)).bind fun v30 =>
 (aj .other .add (vw 1) v30).bind fun v31 =>
 oh v25 v27 v31 H28) = some r) : FF kY [x0] H = some r :=
 fo (t := F7 x0 H) Tryz.func30 (by kernel_rfl) (Eq.trans (pt rfl 1 Sx (by kernel_rfl)) h)
theorem Df (x0 : Value) (H : AH) {r : Value × AH} (h : (
 aY (Value.cells x0).toList H fun v0 H1 =>
 (aA 5 v0 H1).bind fun v2 =>
 (FF kX [v2] H1).bind fun r3 =>
 (pi .not r3.1).bind fun v4 =>
 ax v4
 (some (Value.tuple #[(.pointer none), (vi 1)], r3.2))
 ((FF tM [] r3.2).bind fun r5 =>
 ld [.f 0] v0 r5.2 fun v6 =>
 (FF n3 [r5.1, v6] r5.2).bind fun r7 =>
 ad [.f 0] v0 fun v8 =>
 (ar v8 r7.2).bind fun v9 =>
 bE (ar v8 r5.2) (ar v8 r7.2) <|
 ad [.f 1] v0 fun v10 =>
 (ar v10 r7.2).bind fun v11 =>
 bE (ar v10 r5.2) (ar v10 r7.2) <|
 (FF n9 [r5.1, v9, v11] r7.2).bind fun r12 =>
 ad [.f 2] v0 fun v13 =>
 (ar v13 r12.2).bind fun v14 =>
 bE (ar v13 r5.2) (ar v13 r12.2) <|
 bE (ar v13 r7.2) (ar v13 r12.2) <|
 (FF qv [r5.1, v14] r12.2).bind fun r15 =>
 (aA 5 v0 r15.2).bind fun v16 =>
 bE (aA 5 v0 r5.2) (aA 5 v0 r15.2) <|
 bE (aA 5 v0 r7.2) (aA 5 v0 r15.2) <|
 bE (aA 5 v0 r12.2) (aA 5 v0 r15.2) <|
 (FF qq [v16] r15.2).bind fun r17 =>
 (aA 5 v0 r17.2).bind fun v18 =>
 bE (aA 5 v0 r5.2) (aA 5 v0 r17.2) <|
 bE (aA 5 v0 r7.2) (aA 5 v0 r17.2) <|
 bE (aA 5 v0 r12.2) (aA 5 v0 r17.2) <|
 bE (aA 5 v0 r15.2) (aA 5 v0 r17.2) <|
 zW r17.2 fun v19 H20 =>
 gk [(0, 1), (1, 1), (2, 1), (3, 1), (4, 1), (5, 5), (10, 1), (11, 1), (12, 1)] [(.pointer none), (.pointer none), (.pointer none), (.pointer none), (.pointer none), (vi 0), (vi 0), (vi 0), (vi 0), (vw 0), (.slice none 0 0), (.map none), (.slice none 0 0)] [(0, r5.1), (1, r7.1), (2, r12.1), (3, r15.1), (4, r17.1), (5, v18), (7, v19)] fun v21 =>
 aY (Value.cells v21).toList H20 fun v22 H23 =>
 some (Value.tuple #[v22, (vi 0)], H23))) = some r) : FF n5 [x0] H = some r :=
 fo Tryz.func31 (by kernel_rfl) h
theorem vt (x0 : Value) (H : AH) {r : Value × AH} (h : (
 aY (Value.cells x0).toList H fun v0 H1 =>
 gk [(0, 1), (1, 1), (2, 1)] [(.slice none 0 0), (.slice none 0 0), (.slice none 0 0)] [] fun v2 =>
 aY (Value.cells v2).toList H1 fun v3 H4 =>
 (aA 5 v0 H4).bind fun v5 =>
 ld [.f 0] v0 H4 fun v6 =>
 (FF jW [v3, v6] H4).bind fun r7 =>
 bE (aA 5 v0 r7.2) (aA 5 v0 H4) <|
 ad [.f 0] v0 fun v8 =>
 (ar v8 r7.2).bind fun v9 =>
 bE (ar v8 H4) (ar v8 r7.2) <|
 ad [.f 1] v0 fun v10 =>
 (ar v10 r7.2).bind fun v11 =>
 bE (ar v10 H4) (ar v10 r7.2) <|
 (FF jY [v3, v9, v11] r7.2).bind fun r12 =>
 bE (aA 5 v0 r12.2) (aA 5 v0 H4) <|
 ad [.f 2] v0 fun v13 =>
 (ar v13 r12.2).bind fun v14 =>
 bE (ar v13 H4) (ar v13 r12.2) <|
 bE (ar v13 r7.2) (ar v13 r12.2) <|
 (FF la [v3, v14] r12.2).bind fun r15 =>
 bE (aA 5 v0 r15.2) (aA 5 v0 H4) <|
 (aA 5 v0 r15.2).bind fun v16 =>
 bE (aA 5 v0 H4) (aA 5 v0 r15.2) <|
 bE (aA 5 v0 r7.2) (aA 5 v0 r15.2) <|
 bE (aA 5 v0 r12.2) (aA 5 v0 r15.2) <|
 (FF k7 [v16] r15.2).bind fun r17 =>
 bE (aA 5 v0 r17.2) (aA 5 v0 H4) <|
 gk [(0, 5), (5, 1), (6, 1), (7, 1), (8, 1), (9, 1), (10, 1), (11, 1), (12, 1), (13, 1)] [(vi 0), (vi 0), (vi 0), (vi 0), (vw 0), (.pointer none), (.pointer none), (.pointer none), (.pointer none), (.pointer none), (.slice none 0 0), (.slice none 0 0), (.slice none 0 0), (.slice none 0 0)] [(0, v5), (1, v3), (2, r7.1), (3, r12.1), (4, r15.1), (5, r17.1)] fun v18 =>
 aY (Value.cells v18).toList r17.2 fun v19 H20 =>
 some (v19, H20)) = some r) : FF jX [x0] H = some r :=
 fo Tryz.func32 (by kernel_rfl) h
theorem u4 (x0 x1 x2 x3 : Value) (H : AH) {r : Value × AH} (h : (
 aY (Value.cells x0).toList H fun v0 H1 =>
 ld [.f 1] v0 H1 fun v2 =>
 ldN 5 [.n, .f 0] v2 H1 fun v3 =>
 aY [(vi 0), (vi 0), (vi 0), (vi 0), (vw 0)] H1 fun v4 H5 =>
 (cW 5 v4 v3 H5).bind fun H6 =>
 ld [.f 4] v4 H6 fun v7 =>
 (FF kZ [v7, x2] H6).bind fun r8 =>
 (ai r8.1 0).bind fun v9 =>
 (ai r8.1 1).bind fun v10 =>
 gk [(0, 1), (1, 1), (2, 1)] [(vi 0), (vi 0), (vw 0)] [(0, x1), (1, x3), (2, v9)] fun v11 =>
 aY [(vi 0), (vi 0), (vw 0)] r8.2 fun v12 H13 =>
 (cW 3 v12 v11 H13).bind fun H14 =>
 ld [.f 0] v0 H14 fun v15 =>
 (aA 3 v12 H14).bind fun v16 =>
 (FF fW [v15, (vi 0), v16] H14).bind fun r17 =>
 ad [.f 1] v0 fun v18 =>
 (ar v18 r17.2).bind fun v19 =>
 bE (ar v18 H14) (ar v18 r17.2) <|
 (aA 3 v12 r17.2).bind fun v20 =>
 bE (aA 3 v12 H14) (aA 3 v12 r17.2) <|
 (FF il [v19, (vi 0), v20] r17.2).bind fun r21 =>
 (aj .other .eql r17.1 r21.1).bind fun v22 =>
 fp v22 true  [.f 0] v0 r21.2 fun v23 =>
 fp v22 true  [.n, .f 2] v23 r21.2 fun v24 =>
 (gV v22 true x1).bind fun v25 =>
 fp v22 true  [.f 0] v4 r21.2 fun v26 =>
 (gB v22 true (aj .other .rem v25 v26)).bind fun v27 =>
 (gV v22 true x1).bind fun v28 =>
 fp v22 true  [.f 0] v4 r21.2 fun v29 =>
 (gB v22 true (aj .other .quo v28 v29)).bind fun v30 =>
 (gV v22 true x1).bind fun v31 =>
 (gV v22 true r17.1).bind fun v32 =>
 (gE v22 true r21.2 (FF gC [v24, (vi 0), v27, v30, v31, v32] r21.2)).bind fun r33 =>
 (aS v22 r33.1 (vb false)).bind fun v34 =>
 fp v34 true  [.f 1] v0 r33.2 fun v35 =>
 fp v34 true  [.n, .f 7] v35 r33.2 fun v36 =>
 (gV v34 true x1).bind fun v37 =>
 fp v34 true  [.f 0] v4 r33.2 fun v38 =>
 (gB v34 true (aj .other .rem v37 v38)).bind fun v39 =>
 (gV v34 true x1).bind fun v40 =>
 fp v34 true  [.f 0] v4 r33.2 fun v41 =>
 (gB v34 true (aj .other .quo v40 v41)).bind fun v42 =>
 (gV v34 true x1).bind fun v43 =>
 (gV v34 true r21.1).bind fun v44 =>
 (gE v34 true r33.2 (FF iZ [v36, (vi 0), v39, v42, v43, v44] r33.2)).bind fun r45 =>
 (aS v34 r45.1 (vb false)).bind fun v46 =>
 some (v46, r45.2)) = some r) : FF jS [x0, x1, x2, x3] H = some r :=
 fo Tryz.func33 (by kernel_rfl) h
theorem oB (x0 x1 : Value) (H : AH) {r : Value × AH} (h : (
 ld [.n, .f 1] x0 H fun v0 =>
 (aj .other .rem x1 v0).bind fun v1 =>
 ld [.n, .f 1] x0 H fun v2 =>
 (aj .other .add v1 v2).bind fun v3 =>
 ld [.n, .f 1] x0 H fun v4 =>
 (aj .other .rem v3 v4).bind fun v5 =>
 some (v5, H)) = some r) : FF fi [x0, x1] H = some r :=
 fo Tryz.func34 (by kernel_rfl) h
noncomputable def LZ (p : List Nat) : Code := Code.sub (bJ Tryz.f35) p
noncomputable def xM : KK := ei PP (Tryz.f35).results.toList
noncomputable def SA : KK := CQ (LZ [1]) xM bx xM
noncomputable def uo (x0 x1 x4 x5 : Value) (H : AH) : OV := SA (ls [x0, x1, u, u, x4, x5] 45) H
noncomputable def IC : KK := CQ (LZ [1, 1]) xM bx xM
noncomputable def Zz : KK := dv 2251799813685196 IC
noncomputable def np (x0 x1 x4 x5 : Value) (H : AH) : OV := IC (ls [x0, x1, u, u, x4, x5] 45) H
noncomputable def ZA : KX := BX 0 Zz bx
theorem vU : au 2251799813685199 xM := rf
theorem SB : au 2251799813685196 SA := rc vU aC vU
theorem Fo : au 2251799813685196 IC := rc vU aC vU
theorem SC : ∀ i, au 2251799813685196 (ZA i) := rb (cd Fo) aC
theorem wQ (x0 x1 x4 x5 : Value) (H : AH) : np x0 x1 x4 x5 H =
 (FF ic [x0, x1] H).bind fun r2 =>
 (ai r2.1 0).bind fun v3 =>
 (ai r2.1 1).bind fun v4 =>
 (cW 4 x4 v3 r2.2).bind fun H5 =>
 (aA 4 x4 H5).bind fun v6 => some (Value.tuple #[v6, v4], H5) :=
 (by kernel_rfl)
theorem wP (x0 x1 x4 x5 : Value) (H : AH) : uo x0 x1 x4 x5 H =
 ld [.n, .f 2, .f 2] x0 H fun v8 =>
 (aj .other .lss v8 (vi 1)).bind fun v9 =>
 (gV v9 false x0).bind fun v10 =>
 fp v9 false  [.n, .f 2, .f 2] v10 H fun v11 =>
 (gB v9 false (aj .other .gtr v11 (vi 65536))).bind fun v12 =>
 (aS v9 (vb true) v12).bind fun v13 =>
 ax v13
 ((FF gi [x0, x1, (vi 3)] H).bind fun r14 =>
 (ai r14.1 0).bind fun v15 =>
 (ai r14.1 1).bind fun v16 =>
 (cW 4 x4 v15 r14.2).bind fun H17 =>
 (aA 4 x4 H17).bind fun v18 => some (Value.tuple #[v18, v16], H17))
 (ld [.n, .f 2, .f 1] x0 H fun v19 =>
 (aj .other .lss v19 (vi 0)).bind fun v20 =>
 (gV v20 false x0).bind fun v21 =>
 fp v20 false  [.n, .f 2, .f 1] v21 H fun v22 =>
 (gB v20 false (aj .other .gtr v22 (vi 1048576))).bind fun v23 =>
 (aS v20 (vb true) v23).bind fun v24 =>
 ax v24
 ((FF gi [x0, x1, (vi 5)] H).bind fun r25 =>
 (ai r25.1 0).bind fun v26 =>
 (ai r25.1 1).bind fun v27 =>
 (cW 4 x4 v26 r25.2).bind fun H28 =>
 (aA 4 x4 H28).bind fun v29 => some (Value.tuple #[v29, v27], H28))
 (np x0 x1 x4 x5 H)) :=
 (pt rfl 0 Fo (bt rfl (LZ [1, 0, 4]) 0 SC (by kernel_rfl)))
noncomputable def RI (x0 x1 : Value) (H : AH) : OV := aW PP GG FF (LZ []) (ls [x0, x1] 49) H xM bx xM
theorem EG (x0 x1 : Value) (H : AH) {r : Value × AH} (h : (
 aY [(vi 0), (.slice none 0 0), (vi 0), (vw 0)] H fun v30 H31 =>
 uo x0 x1 v30 (vb false) H31) = some r) : FF jQ [x0, x1] H = some r :=
 fo (t := RI x0 x1 H) Tryz.func35 (by kernel_rfl) (Eq.trans (pt rfl 0 SB (by kernel_rfl)) h)
theorem aaC (x0 : Value) (H : AH) {r : Value × AH} (h : (
 (aj .slice .eql x0 (.slice none 0 0)).bind fun v0 =>
 ax v0
 (some ((.slice none 0 0), H))
 (zY 0 7 [(vi 0), (vi 0), (vi 0), (vi 0), (.slice none 0 0), (vi 0), (vw 0)] [] H fun v1 H2 =>
 (dN 7 72 v1 x0 H2).bind fun r3 =>
 some (r3.1, r3.2))) = some r) : FF UR [x0] H = some r :=
 fo Tryz.func36 (by kernel_rfl) h
theorem aaG (x0 x1 : Value) (H : AH) {r : Value × AH} (h : (
 iN x0 fun v0 =>
 (FF UU [x0, v0, x1] H).bind fun r1 =>
 some (Value.tuple #[], r1.2)) = some r) : FF UT [x0, x1] H = some r :=
 fo Tryz.func37 (by kernel_rfl) h
theorem Dg (x0 : Value) (H : AH) {r : Value × AH} (h : (
 aY (Value.cells x0).toList H fun v0 H1 =>
 aY [(vi 0), (.slice none 0 0), (vi 0), (vw 0)] H1 fun v2 H3 =>
 ld [.f 1] v0 H3 fun v4 =>
 (FF UQ [v4] H3).bind fun r5 =>
 st 1 [.f 1] v0 r5.1 r5.2 fun H6 =>
 (aA 4 v0 H6).bind fun v7 =>
 (cW 4 v2 v7 H6).bind fun H8 =>
 (aA 4 v2 H8).bind fun v9 => some (v9, H8)) = some r) : FF kB [x0] H = some r :=
 fo Tryz.func39 (by kernel_rfl) h
theorem lE (x0 x1 : Value) (H : AH) {r : Value × AH} (h : (
 (FF n0 [x0, x1, (.func (.func kW) #[] #[])] H).bind fun r0 =>
 some (r0.1, r0.2)) = some r) : FF dL [x0, x1] H = some r :=
 fo Tryz.func40 (by kernel_rfl) h
theorem yy (x0 x1 x2 x3 : Value) (H : AH) {r : Value × AH} (h : (
 aY (Value.cells x2).toList H fun v0 H1 =>
 (aA 3 v0 H1).bind fun v2 =>
 (aA 3 v0 H1).bind fun v3 =>
 (FF dz [x0, v3] H1).bind fun r4 =>
 bE (aA 3 v0 r4.2) (aA 3 v0 H1) <|
 (aj .other .add r4.1 x3).bind fun v5 =>
 (FF gv [x0, x1, v2, v5] r4.2).bind fun r6 =>
 some (r6.1, r6.2)) = some r) : FF dY [x0, x1, x2, x3] H = some r :=
 fo Tryz.func48 (by kernel_rfl) h
theorem yK (x0 x1 x2 x3 : Value) (H : AH) {r : Value × AH} (h : (
 aY (Value.cells x2).toList H fun v0 H1 =>
 (aA 3 v0 H1).bind fun v2 =>
 (FF yB [x0, v2] H1).bind fun r3 =>
 (aA 3 v0 r3.2).bind fun v4 =>
 (FF bD [x0, x1, (vi 3), v4] r3.2).bind fun r5 =>
 ld [.n, .f 1] x0 r5.2 fun v6 =>
 ld [.i 1 r3.1] v6 r5.2 fun v7 =>
 ld [.n, .f 1] x0 r5.2 fun v8 =>
 (aj .other .add v7 x3).bind fun v9 =>
 st 1 [.i 1 r3.1] v8 v9 r5.2 fun H10 =>
 some (v7, H10)) = some r) : FF fA [x0, x1, x2, x3] H = some r :=
 fo Tryz.func49 (by kernel_rfl) h
theorem Jt (x0 x1 x2 : Value) (H : AH) {r : Value × AH} (h : (
 aY [(vi 0), (vi 0), (vi 0)] H fun v0 H1 =>
 gk [(0, 1), (1, 1), (2, 1)] [(vi 0), (vi 0), (vi 0)] [(0, x0), (1, x1), (2, x2)] fun v2 =>
 (cW 3 v0 v2 H1).bind fun H3 =>
 (aA 3 v0 H3).bind fun v4 => some (v4, H3)) = some r) : FF bF [x0, x1, x2] H = some r :=
 fo Tryz.func50 (by kernel_rfl) h
theorem yA (x0 : Value) (H : AH) {r : Value × AH} (h : (
 aY (Value.cells x0).toList H fun v0 H1 =>
 ld [.f 0] v0 H1 fun v2 =>
 (FF dB [v2, (vi 1), (vi 4)] H1).bind fun r3 =>
 fp r3.1 true  [.f 1] v0 r3.2 fun v4 =>
 (gE r3.1 true r3.2 (FF dB [v4, (vi 1), (vi 4)] r3.2)).bind fun r5 =>
 (aS r3.1 r5.1 (vb false)).bind fun v6 =>
 fp v6 true  [.f 2] v0 r5.2 fun v7 =>
 (gE v6 true r5.2 (FF dB [v7, (vi 1), (vi 6)] r5.2)).bind fun r8 =>
 (aS v6 r8.1 (vb false)).bind fun v9 =>
 fp v9 true  [.f 3] v0 r8.2 fun v10 =>
 (gE v9 true r8.2 (FF dB [v10, (vi 0), (vi 40)] r8.2)).bind fun r11 =>
 (aS v9 r11.1 (vb false)).bind fun v12 =>
 fp v12 true  [.f 4] v0 r11.2 fun v13 =>
 (gB v12 true (aj .other .geq v13 (vw 1))).bind fun v14 =>
 (aS v12 v14 (vb false)).bind fun v15 =>
 fp v15 true  [.f 4] v0 r11.2 fun v16 =>
 (gB v15 true (aj .other .leq v16 (vw 4611686018427387904))).bind fun v17 =>
 (aS v15 v17 (vb false)).bind fun v18 =>
 some (v18, r11.2)) = some r) : FF kX [x0] H = some r :=
 fo Tryz.func55 (by kernel_rfl) h
theorem Jc (H : AH) {r : Value × AH} (h : (
 zW H fun v0 H1 =>
 gk [(0, 1), (1, 1)] [(.map none), (.slice none 0 0)] [(0, v0)] fun v2 =>
 aY (Value.cells v2).toList H1 fun v3 H4 =>
 some (v3, H4)) = some r) : FF tM [] H = some r :=
 fo Tryz.func56 (by kernel_rfl) h
theorem C1 (x0 x1 : Value) (H : AH) {r : Value × AH} (h : (
 (f3 [x1, (vi 1)]).bind fun v0 =>
 (gR [v0, (vi 4)]).bind fun v1 =>
 zW H fun v2 H3 =>
 gk [(0, 1), (1, 1), (2, 1), (3, 1), (4, 1)] [(.pointer none), (vi 0), (.map none), Value.nilFunc, Value.nilFunc] [(0, x0), (1, v1), (2, v2), (3, (.func (.func bd) #[(vi 9)] #[])), (4, (.func (.func bd) #[(vi 14)] #[]))] fun v4 =>
 aY (Value.cells v4).toList H3 fun v5 H6 =>
 some (v5, H6)) = some r) : FF n3 [x0, x1] H = some r :=
 fo Tryz.func57 (by kernel_rfl) h
theorem D7 (x0 x1 x2 : Value) (H : AH) {r : Value × AH} (h : (
 (f3 [x1, (vi 1)]).bind fun v0 =>
 (gR [v0, (vi 4)]).bind fun v1 =>
 (f3 [x2, (vi 1)]).bind fun v2 =>
 (gR [v2, (vi 4)]).bind fun v3 =>
 gk [(0, 1), (1, 1), (2, 1)] [(.pointer none), (vi 0), (vi 0)] [(0, x0), (1, v1), (2, v3)] fun v4 =>
 aY (Value.cells v4).toList H fun v5 H6 =>
 some (v5, H6)) = some r) : FF n9 [x0, x1, x2] H = some r :=
 fo Tryz.func58 (by kernel_rfl) h
theorem Gb (x0 x1 : Value) (H : AH) {r : Value × AH} (h : (
 (f3 [x1, (vi 1)]).bind fun v0 =>
 (gR [v0, (vi 6)]).bind fun v1 =>
 zW H fun v2 H3 =>
 zW H3 fun v4 H5 =>
 gk [(0, 1), (1, 1), (2, 1), (3, 1)] [(.pointer none), (vi 0), (.map none), (.map none)] [(0, x0), (1, v1), (2, v2), (3, v4)] fun v6 =>
 aY (Value.cells v6).toList H5 fun v7 H8 =>
 some (v7, H8)) = some r) : FF qv [x0, x1] H = some r :=
 fo Tryz.func59 (by kernel_rfl) h
theorem EB (x0 : Value) (H : AH) {r : Value × AH} (h : (
 aY (Value.cells x0).toList H fun v0 H1 =>
 ld [.f 0] v0 H1 fun v2 =>
 ld [.f 3] v0 H1 fun v3 =>
 (FF n6 [v2, v3] H1).bind fun r4 =>
 zW r4.2 fun v5 H6 =>
 zW H6 fun v7 H8 =>
 gk [(0, 1), (1, 1), (2, 1), (3, 1), (4, 1), (5, 1), (6, 1), (7, 1), (8, 3)] [Value.nilFunc, Value.nilFunc, Value.nilFunc, (vw 0), (vw 0), (vi 0), (.map none), (.map none), (vb false), (vi 0), (vw 0)] [(0, (.func (.func qw) #[r4.1] #[])), (1, (.func (.func sn) #[r4.1] #[])), (2, (.func (.func sm) #[r4.1] #[])), (6, v5), (7, v7)] fun v9 =>
 aY (Value.cells v9).toList H8 fun v10 H11 =>
 some (v10, H11)) = some r) : FF qq [x0] H = some r :=
 fo Tryz.func60 (by kernel_rfl) h
theorem vr (x0 x1 : Value) (H : AH) {r : Value × AH} (h : (
 (f3 [x1, (vi 1)]).bind fun v0 =>
 (gR [v0, (vi 4)]).bind fun v1 =>
 gk [(0, 1), (1, 1), (2, 1), (3, 1)] [(.pointer none), (vi 0), (.slice none 0 0), (.slice none 0 0)] [(0, x0), (1, v1)] fun v2 =>
 aY (Value.cells v2).toList H fun v3 H4 =>
 some (v3, H4)) = some r) : FF jW [x0, x1] H = some r :=
 fo Tryz.func61 (by kernel_rfl) h
theorem vx (x0 x1 x2 : Value) (H : AH) {r : Value × AH} (h : (
 (f3 [x1, (vi 1)]).bind fun v0 =>
 (gR [v0, (vi 4)]).bind fun v1 =>
 (f3 [x2, (vi 1)]).bind fun v2 =>
 (gR [v2, (vi 4)]).bind fun v3 =>
 gk [(0, 1), (1, 1), (2, 1)] [(.pointer none), (vi 0), (vi 0)] [(0, x0), (1, v1), (2, v3)] fun v4 =>
 aY (Value.cells v4).toList H fun v5 H6 =>
 some (v5, H6)) = some r) : FF jY [x0, x1, x2] H = some r :=
 fo Tryz.func62 (by kernel_rfl) h
theorem yN (x0 x1 : Value) (H : AH) {r : Value × AH} (h : (
 (f3 [x1, (vi 1)]).bind fun v0 =>
 (gR [v0, (vi 6)]).bind fun v1 =>
 gk [(0, 1), (1, 1), (2, 1), (3, 1), (4, 1), (5, 1)] [(.pointer none), (vi 0), (.slice none 0 0), (.slice none 0 0), (.slice none 0 0), (.slice none 0 0)] [(0, x0), (1, v1)] fun v2 =>
 aY (Value.cells v2).toList H fun v3 H4 =>
 some (v3, H4)) = some r) : FF la [x0, x1] H = some r :=
 fo Tryz.func63 (by kernel_rfl) h
theorem yM (x0 : Value) (H : AH) {r : Value × AH} (h : (
 aY (Value.cells x0).toList H fun v0 H1 =>
 ld [.f 0] v0 H1 fun v2 =>
 ld [.f 3] v0 H1 fun v3 =>
 (FF UN [v2, v3] H1).bind fun r4 =>
 gk [(0, 1), (1, 1), (2, 1), (3, 1), (4, 1), (5, 1), (6, 1), (7, 1), (8, 1)] [(.pointer none), (vw 0), (vw 0), (vi 0), (.slice none 0 0), (.slice none 0 0), (vb false), (vi 0), (vw 0)] [(0, r4.1)] fun v5 =>
 aY (Value.cells v5).toList r4.2 fun v6 H7 =>
 some (v6, H7)) = some r) : FF k7 [x0] H = some r :=
 fo Tryz.func64 (by kernel_rfl) h
theorem yI (x0 x1 : Value) (H : AH) {r : Value × AH} (h : (
 (aj .other .lss x0 (vw 1)).bind fun v0 =>
 (gV v0 false x0).bind fun v1 =>
 (gB v0 false (aj .other .gtr v1 (vw 4611686018427387904))).bind fun v2 =>
 (aS v0 (vb true) v2).bind fun v3 =>
 (gV v3 false x1).bind fun v4 =>
 (gB v3 false (aj .other .lss v4 (vi 1))).bind fun v5 =>
 (aS v3 (vb true) v5).bind fun v6 =>
 (gV v6 false x1).bind fun v7 =>
 (gB v6 false (aj .other .gtr v7 (vi 65536))).bind fun v8 =>
 (aS v6 (vb true) v8).bind fun v9 =>
 ax v9
 (some (Value.tuple #[(vw 0), (vb false)], H))
 ((bz (some .u64) x1).bind fun v10 =>
 (aj .other .quo x0 v10).bind fun v11 =>
 (f3 [v11, (vw 1)]).bind fun v12 =>
 some (Value.tuple #[v12, (vb true)], H))) = some r) : FF kZ [x0, x1] H = some r :=
 fo Tryz.func65 (by kernel_rfl) h
theorem pC (x0 x1 x2 : Value) (H : AH) {r : Value × AH} (h : (
 aY (Value.cells x2).toList H fun v0 H1 =>
 ld [.n, .f 10] x0 H1 fun v2 =>
 iN v2 fun v3 =>
 ld [.n, .f 0] x0 H1 fun v4 =>
 gk [(0, 1), (1, 1), (2, 1)] [(vi 0), (vi 0), (vi 0)] [(0, (vi 13)), (1, v3)] fun v5 =>
 (FF dU [v4, x1, v5] H1).bind fun r6 =>
 ad [.n, .f 10] x0 fun v7 =>
 (ar v7 r6.2).bind fun v8 =>
 (aA 3 v0 r6.2).bind fun v9 =>
 ld [.n, .f 0] x0 r6.2 fun v10 =>
 ld [.f 1] v0 r6.2 fun v11 =>
 (FF qx [v10, v3, v11] r6.2).bind fun r12 =>
 bE (ar v7 r12.2) (ar v7 r6.2) <|
 bE (aA 3 v0 r12.2) (aA 3 v0 r6.2) <|
 gk [(0, 3), (3, 1)] [(vi 0), (vi 0), (vw 0), (.pointer none)] [(0, v9), (1, r12.1)] fun v13 =>
 zY 1 4 [(vi 0), (vi 0), (vw 0), (.pointer none)] [(0, v13)] r12.2 fun v14 H15 =>
 (dN 4 32 v8 v14 H15).bind fun r16 =>
 st 1 [.n, .f 10] x0 r16.1 r16.2 fun H17 =>
 some (v3, H17)) = some r) : FF fW [x0, x1, x2] H = some r :=
 fo Tryz.func66 (by kernel_rfl) h
theorem sJ (x0 x1 x2 : Value) (H : AH) {r : Value × AH} (h : (
 aY (Value.cells x2).toList H fun v0 H1 =>
 ld [.n, .f 10] x0 H1 fun v2 =>
 iN v2 fun v3 =>
 ad [.n, .f 5] x0 fun v4 =>
 (ar v4 H1).bind fun v5 =>
 (FF bF [(vi 13), v3, (vi 0)] H1).bind fun r6 =>
 bE (ar v4 r6.2) (ar v4 H1) <|
 (FF bD [v5, x1, (vi 6), r6.1] r6.2).bind fun r7 =>
 ld [.n, .f 10] x0 r7.2 fun v8 =>
 (aA 3 v0 r7.2).bind fun v9 =>
 zY 1 3 [(vi 0), (vi 0), (vw 0)] [(0, v9)] r7.2 fun v10 H11 =>
 (dN 3 24 v8 v10 H11).bind fun r12 =>
 ad [.n, .f 11] x0 fun v13 =>
 (ar v13 r12.2).bind fun v14 =>
 bE (ar v13 H11) (ar v13 r12.2) <|
 ad [.n, .f 5] x0 fun v15 =>
 (ar v15 r12.2).bind fun v16 =>
 bE (ar v15 H11) (ar v15 r12.2) <|
 ad [.f 1] v0 fun v17 =>
 (ar v17 r12.2).bind fun v18 =>
 bE (ar v17 H11) (ar v17 r12.2) <|
 (FF lc [v16, v3, v18] r12.2).bind fun r19 =>
 bE (ar v13 r19.2) (ar v13 r12.2) <|
 zY 1 1 [(.pointer none)] [(0, r19.1)] r19.2 fun v20 H21 =>
 (dN 1 8 v14 v20 H21).bind fun r22 =>
 st 1 [.n, .f 10] x0 r12.1 r22.2 fun H23 =>
 st 1 [.n, .f 11] x0 r22.1 H23 fun H24 =>
 some (v3, H24)) = some r) : FF il [x0, x1, x2] H = some r :=
 fo Tryz.func67 (by kernel_rfl) h
theorem qU (x0 x1 x2 x3 x4 x5 : Value) (H : AH) {r : Value × AH} (h : (
 (aj .other .lss x4 (vi 0)).bind fun v0 =>
 (gV v0 false x4).bind fun v1 =>
 (gB v0 false (aj .other .gtr v1 (vi 1048576))).bind fun v2 =>
 (aS v0 (vb true) v2).bind fun v3 =>
 (gV v3 false x5).bind fun v4 =>
 (gB v3 false (aj .other .lss v4 (vi 0))).bind fun v5 =>
 (aS v3 (vb true) v5).bind fun v6 =>
 (gV v6 false x5).bind fun v7 =>
 (gB v6 false (aj .other .geq v7 (vi 4294967296))).bind fun v8 =>
 (aS v6 (vb true) v8).bind fun v9 =>
 ax v9
 (some ((vb false), H))
 (ad [.n, .f 0] x0 fun v10 =>
 (ar v10 H).bind fun v11 =>
 (FF jc [x2, x3] H).bind fun r12 =>
 bE (ar v10 r12.2) (ar v10 H) <|
 (aj .other .add x4 (vi 1)).bind fun v13 =>
 (bz (some .u64) v13).bind fun v14 =>
 (aj .other .shl v14 (vw 32)).bind fun v15 =>
 (bz (some .u64) x5).bind fun v16 =>
 (aj .other .or v15 v16).bind fun v17 =>
 (FF cY [v11, x1, r12.1, v17] r12.2).bind fun r18 =>
 some ((vb true), r18.2))) = some r) : FF gC [x0, x1, x2, x3, x4, x5] H = some r :=
 fo Tryz.func68 (by kernel_rfl) h
theorem tZ (x0 x1 x2 x3 x4 x5 : Value) (H : AH) {r : Value × AH} (h : (
 (aj .other .lss x4 (vi 0)).bind fun v0 =>
 (gV v0 false x4).bind fun v1 =>
 (gB v0 false (aj .other .gtr v1 (vi 1048576))).bind fun v2 =>
 (aS v0 (vb true) v2).bind fun v3 =>
 (gV v3 false x5).bind fun v4 =>
 (gB v3 false (aj .other .lss v4 (vi 0))).bind fun v5 =>
 (aS v3 (vb true) v5).bind fun v6 =>
 (gV v6 false x5).bind fun v7 =>
 (gB v6 false (bz (some .u64) v7)).bind fun v8 =>
 (gB v6 false (aj .other .geq v8 (vw 4294967296))).bind fun v9 =>
 (aS v6 (vb true) v9).bind fun v10 =>
 ax v10
 (some ((vb false), H))
 (ad [.n, .f 0] x0 fun v11 =>
 (ar v11 H).bind fun v12 =>
 (FF bF [(vi 10), x2, x3] H).bind fun r13 =>
 bE (ar v11 r13.2) (ar v11 H) <|
 (aj .other .add x4 (vi 1)).bind fun v14 =>
 (bz (some .u64) v14).bind fun v15 =>
 (aj .other .mul v15 (vw 4294967296)).bind fun v16 =>
 (bz (some .u64) x5).bind fun v17 =>
 (aj .other .add v16 v17).bind fun v18 =>
 (FF dV [v12, x1, r13.1, v18] r13.2).bind fun r19 =>
 some ((vb true), r19.2))) = some r) : FF iZ [x0, x1, x2, x3, x4, x5] H = some r :=
 fo Tryz.func69 (by kernel_rfl) h
theorem BN (x0 x1 x2 : Value) (H : AH) {r : Value × AH} (h : (
 aY [(vi 0), (.slice none 0 0), (vi 0), (vw 0)] H fun v0 H1 =>
 (FF jo [x0, x1, x2] H1).bind fun r2 =>
 (FF jl [x0, x2] r2.2).bind fun r3 =>
 (ai r3.1 0).bind fun v4 =>
 (ai r3.1 1).bind fun v5 =>
 (cW 4 v0 v4 r3.2).bind fun H6 =>
 (aA 4 v0 H6).bind fun v7 => some (Value.tuple #[v7, v5], H6)) = some r) : FF gi [x0, x1, x2] H = some r :=
 fo Tryz.func70 (by kernel_rfl) h
noncomputable def e9 (p : List Nat) : Code := Code.sub (bJ Tryz.f72) p
noncomputable def gq : KK := ei PP (Tryz.f72).results.toList
noncomputable def Tm : KK := CQ (e9 [1, 1]) gq bx gq
noncomputable def VL (x0 x1 x2 x6 x7 x8 : Value) (H : AH) : OV := Tm (ls [x0, x1, x2, u, u, u, x6, x7, x8] 54) H
noncomputable def IQ : KK := CQ (e9 [1, 1, 1]) gq bx gq
noncomputable def ZL : KK := dv 9223372036854775608 IQ
noncomputable def VM (x0 x1 x2 x6 x7 : Value) (H : AH) : OV := IQ (ls [x0, x1, x2, u, u, u, x6, x7] 55) H
noncomputable def To : KK := CQ (e9 [1, 1, 1, 1]) gq bx gq
noncomputable def Kg (x0 x1 x2 x6 : Value) (H : AH) : OV := To (ls [x0, x1, x2, u, u, u, x6] 56) H
noncomputable def IT : KX := BX 2 gq bx
noncomputable def IU : KX := py 9223372036854775807 IT
noncomputable def IR : KK := tf (e9 [1, 1, 1, 1, 4, 5]) IU gq
noncomputable def xO : KK := dv 9223372036854775736 IR
noncomputable def DV (x0 x1 x2 x6 : Value) (H : AH) : OV := IR (ls [x0, x1, x2, u, u, u, x6] 56) H
noncomputable def Tq : KK := CQ (e9 [1, 1, 1, 1, 4, 5, 1]) xO IU gq
noncomputable def VN (x0 x1 x2 x6 : Value) (H : AH) : OV := Tq (ls [x0, x1, x2, u, u, u, x6] 56) H
noncomputable def TA : KX := BX 3 xO IU
noncomputable def CU : KX := py 9223372036854775736 TA
noncomputable def Tv : KK := CQ (e9 [1, 1, 1, 1, 4, 5, 1, 4, 1]) xO CU gq
noncomputable def VO (x0 x1 x2 x6 x7 x8 : Value) (H : AH) : OV := Tv (ls [x0, x1, x2, u, u, u, x6, x7, x8] 54) H
noncomputable def IS : KK := CQ (e9 [1, 1, 1, 1, 4, 5, 1, 4, 1, 1]) xO CU gq
noncomputable def ZM : KK := dv 9223372036854775608 IS
noncomputable def VP (x0 x1 x2 x6 x7 : Value) (H : AH) : OV := IS (ls [x0, x1, x2, u, u, u, x6, x7] 55) H
noncomputable def Tx : KK := CQ (e9 [1, 1, 1, 1, 4, 5, 1, 4, 1, 1, 1]) xO CU gq
noncomputable def DW (x0 x1 x2 x6 : Value) (H : AH) : OV := Tx (ls [x0, x1, x2, u, u, u, x6] 56) H
noncomputable def CP : KX := BX 4 ZM CU
noncomputable def CS : KX := py 9223372036854775608 CP
noncomputable def CN : KK := tf (e9 [1, 1, 1, 1, 4, 5, 1, 4, 1, 0, 4, 5]) CS gq
noncomputable def Mi : KK := dv 9223372036854775352 CN
noncomputable def wj (x0 x1 x2 x6 x7 x8 : Value) (H : AH) : OV := CN (ls [x0, x1, x2, u, u, u, x6, x7, x8] 54) H
noncomputable def Mk : KK := CQ (e9 [1, 1, 1, 1, 4, 5, 1, 4, 1, 0, 4, 5, 1]) Mi CS gq
noncomputable def Nm (x0 x1 x2 x6 x7 x8 : Value) (H : AH) : OV := Mk (ls [x0, x1, x2, u, u, u, x6, x7, x8] 54) H
noncomputable def XB : KX := BX 5 Mi CS
noncomputable def Bp (x0 x1 x2 x6 x7 : Value) (H : AH) : OV := CP 4 (ls [x0, x1, x2, u, u, u, x6, x7] 55) H
noncomputable def GA (H : AH) : OV := IT 2 (ls [] 63) H
noncomputable def CR : KX := BX 0 ZL bx
noncomputable def CT : KX := py 9223372036854775608 CR
noncomputable def CO : KK := tf (e9 [1, 1, 0, 4, 5]) CT gq
noncomputable def Mj : KK := dv 9223372036854775352 CO
noncomputable def wl (x0 x1 x2 x6 x7 x8 : Value) (H : AH) : OV := CO (ls [x0, x1, x2, u, u, u, x6, x7, x8] 54) H
noncomputable def Ml : KK := CQ (e9 [1, 1, 0, 4, 5, 1]) Mj CT gq
noncomputable def Nn (x0 x1 x2 x6 x7 x8 : Value) (H : AH) : OV := Ml (ls [x0, x1, x2, u, u, u, x6, x7, x8] 54) H
noncomputable def XC : KX := BX 1 Mj CT
noncomputable def Bq (x0 x1 x2 x6 x7 : Value) (H : AH) : OV := CR 0 (ls [x0, x1, x2, u, u, u, x6, x7] 55) H
theorem dq : au 9223372036854775807 gq := rf
theorem Tn : au 9223372036854775352 Tm := rc dq aC dq
theorem Fv : au 9223372036854775608 IQ := rc dq aC dq
theorem Tp : au 9223372036854775736 To := rc dq aC dq
theorem rI : ∀ i, au 9223372036854775807 (IT i) := rb dq aC
theorem jJ : au 9223372036854775736 IR := rl (cx rI) dq
theorem Tt : au 9223372036854775736 Tq := rc (cd jJ) (cx rI) dq
theorem nD : ∀ i, au 9223372036854775736 (TA i) := rb (cd jJ) (cx rI)
theorem Tw : au 9223372036854775352 Tv := rc (cd jJ) (cx nD) dq
theorem Fw : au 9223372036854775608 IS := rc (cd jJ) (cx nD) dq
theorem Tz : au 9223372036854775736 Tx := rc (cd jJ) (cx nD) dq
theorem pa : ∀ i, au 9223372036854775608 (CP i) := rb (cd Fw) (cx nD)
theorem o8 : au 9223372036854775352 CN := rl (cx pa) dq
theorem Pe : au 9223372036854775352 Mk := rc (cd o8) (cx pa) dq
theorem Pg : ∀ i, au 9223372036854775352 (XB i) := rb (cd o8) (cx pa)
theorem pc : ∀ i, au 9223372036854775608 (CR i) := rb (cd Fv) aC
theorem o9 : au 9223372036854775352 CO := rl (cx pc) dq
theorem Pf : au 9223372036854775352 Ml := rc (cd o9) (cx pc) dq
theorem Ph : ∀ i, au 9223372036854775352 (XC i) := rb (cd o9) (cx pc)
theorem QB (x0 x1 x2 x6 : Value) (H : AH) : DW x0 x1 x2 x6 H =
 (aj .other .mul x6 (vi 2)).bind fun v10 =>
 DV x0 x1 x2 v10 H :=
 (by kernel_rfl)
theorem QA (x0 x1 x2 x6 x7 : Value) (H : AH) : VP x0 x1 x2 x6 x7 H =
 (aj .other .add x7 x6).bind fun v11 =>
 (aj .other .lss v11 x1).bind fun v12 =>
 ax v12
 ((FF AV [x0, x7, v11, x1, x2] H).bind fun r13 =>
 DW x0 x1 x2 x6 r13.2)
 (DW x0 x1 x2 x6 H) :=
 (pt rfl 0 Tz (by kernel_rfl))
theorem Kf (x0 x1 x2 x6 x7 x8 : Value) (H : AH) : Nm x0 x1 x2 x6 x7 x8 H =
 (aj .other .add x7 x6).bind fun v18 =>
 (FF AV [x0, x7, v18, x8, x2] H).bind fun r19 =>
 (aj .other .mul (vi 2) x6).bind fun v20 =>
 (aj .other .add x8 v20).bind fun v21 =>
 wj x0 x1 x2 x6 x8 v21 r19.2 :=
 (bt rfl (e9 [1, 1, 1, 1, 4, 5, 1, 4, 1, 0, 4, 5, 1, 4]) 5 Pg (by kernel_rfl))
theorem DT (x0 x1 x2 x6 x7 : Value) (H : AH) : Bp x0 x1 x2 x6 x7 H = VP x0 x1 x2 x6 x7 H :=
 (by kernel_rfl)
theorem Ke (x0 x1 x2 x6 x7 x8 : Value) (H : AH) : wj x0 x1 x2 x6 x7 x8 H =
 (aj .other .leq x8 x1).bind fun v22 =>
 ax v22
 (Nm x0 x1 x2 x6 x7 x8 H)
 (Bp x0 x1 x2 x6 x7 H) :=
 th rfl o8 (pt rfl 0 Pe (by kernel_rfl))
theorem Qz (x0 x1 x2 x6 x7 x8 : Value) (H : AH) : VO x0 x1 x2 x6 x7 x8 H =
 wj x0 x1 x2 x6 x7 x8 H :=
 (pt rfl 0 Fw (bt rfl (e9 [1, 1, 1, 1, 4, 5, 1, 4, 1, 0, 4]) 4 pa (li rfl (e9 [1, 1, 1, 1, 4, 5, 1, 4, 1, 0, 4, 5]) o8 (by kernel_rfl))))
theorem Qy (x0 x1 x2 x6 : Value) (H : AH) : VN x0 x1 x2 x6 H =
 (aj .other .mul (vi 2) x6).bind fun v23 =>
 VO x0 x1 x2 x6 (vi 0) v23 H :=
 (bt rfl (e9 [1, 1, 1, 1, 4, 5, 1, 4]) 3 nD (pt rfl 0 Tw (by kernel_rfl)))
theorem GB (H : AH) : GA H = some (Value.tuple #[], H) :=
 (by kernel_rfl)
theorem Qx (x0 x1 x2 x6 : Value) (H : AH) : DV x0 x1 x2 x6 H =
 (aj .other .lss x6 x1).bind fun v24 =>
 ax v24
 (VN x0 x1 x2 x6 H)
 (GA H) :=
 th rfl jJ (pt rfl 0 Tt (by kernel_rfl))
theorem Qw (x0 x1 x2 x6 : Value) (H : AH) : Kg x0 x1 x2 x6 H =
 DV x0 x1 x2 x6 H :=
 (bt rfl (e9 [1, 1, 1, 1, 4]) 2 rI (li rfl (e9 [1, 1, 1, 1, 4, 5]) jJ (by kernel_rfl)))
theorem Qv (x0 x1 x2 x6 x7 : Value) (H : AH) : VM x0 x1 x2 x6 x7 H =
 (FF MG [x0, x7, x1, x2] H).bind fun r25 =>
 Kg x0 x1 x2 x6 r25.2 :=
 (pt rfl 0 Tp (by kernel_rfl))
theorem Ki (x0 x1 x2 x6 x7 x8 : Value) (H : AH) : Nn x0 x1 x2 x6 x7 x8 H =
 (FF MG [x0, x7, x8, x2] H).bind fun r30 =>
 (aj .other .add x8 x6).bind fun v31 =>
 wl x0 x1 x2 x6 x8 v31 r30.2 :=
 (bt rfl (e9 [1, 1, 0, 4, 5, 1, 4]) 1 Ph (by kernel_rfl))
theorem DU (x0 x1 x2 x6 x7 : Value) (H : AH) : Bq x0 x1 x2 x6 x7 H = VM x0 x1 x2 x6 x7 H :=
 (by kernel_rfl)
theorem Kh (x0 x1 x2 x6 x7 x8 : Value) (H : AH) : wl x0 x1 x2 x6 x7 x8 H =
 (aj .other .leq x8 x1).bind fun v32 =>
 ax v32
 (Nn x0 x1 x2 x6 x7 x8 H)
 (Bq x0 x1 x2 x6 x7 H) :=
 th rfl o9 (pt rfl 0 Pf (by kernel_rfl))
theorem Qu (x0 x1 x2 x6 x7 x8 : Value) (H : AH) : VL x0 x1 x2 x6 x7 x8 H =
 wl x0 x1 x2 x6 x7 x8 H :=
 (pt rfl 0 Fv (bt rfl (e9 [1, 1, 0, 4]) 0 pc (li rfl (e9 [1, 1, 0, 4, 5]) o9 (by kernel_rfl))))
noncomputable def sSt (x0 x1 x2 : Value) (H : AH) : OV := aW PP GG FF (e9 []) (ls [x0, x1, x2] 60) H gq bx gq
theorem aaH (x0 x1 x2 : Value) (H : AH) {r : Value × AH} (h : (
 VL x0 x1 x2 (vi 20) (vi 0) (vi 20) H) = some r) : FF UU [x0, x1, x2] H = some r :=
 fo (t := sSt x0 x1 x2 H) Tryz.func72 (by kernel_rfl) (Eq.trans (pt rfl 1 Tn (by kernel_rfl)) h)
theorem aaB (x0 : Value) (H : AH) {r : Value × AH} (h : (
 (aj .slice .eql x0 (.slice none 0 0)).bind fun v0 =>
 ax v0
 (some ((.slice none 0 0), H))
 (zY 0 3 [(vi 0), (vi 0), (vi 0)] [] H fun v1 H2 =>
 (dN 3 24 v1 x0 H2).bind fun r3 =>
 some (r3.1, r3.2))) = some r) : FF UQ [x0] H = some r :=
 fo Tryz.func74 (by kernel_rfl) h
noncomputable def us (p : List Nat) : Code := Code.sub (bJ Tryz.f75) p
noncomputable def pP : KK := ei PP (Tryz.f75).results.toList
noncomputable def TC : KK := CQ (us [1, 1]) pP bx pP
noncomputable def rP (x0 x1 x2 x6 : Value) (H : AH) : OV := TC (ls [x0, x1, x2, u, u, u, x6] 23) H
noncomputable def IV : KK := CQ (us [1, 1, 1]) pP bx pP
noncomputable def TB : KK := dv 1073741759 IV
noncomputable def rQ (x6 : Value) (H : AH) : OV := IV (ls [u, u, u, u, u, u, x6] 23) H
noncomputable def TE : KK := CQ (us [1, 1, 0, 1]) TB bx pP
noncomputable def rR (x0 x1 x2 x6 x7 : Value) (H : AH) : OV := TE (ls [x0, x1, x2, u, u, u, x6, x7] 22) H
noncomputable def IX : KX := BX 0 TB bx
noncomputable def TJ : KX := py 1073741759 IX
noncomputable def IW : KK := tf (us [1, 1, 0, 1, 4, 5]) TJ pP
noncomputable def ZN : KK := dv 1073741624 IW
noncomputable def rS (x0 x1 x2 x6 x7 : Value) (H : AH) : OV := IW (ls [x0, x1, x2, u, u, u, x6, x7] 22) H
noncomputable def TH : KK := CQ (us [1, 1, 0, 1, 4, 5, 1]) ZN TJ pP
noncomputable def CZ (x0 x1 x2 x6 x7 : Value) (H : AH) : OV := TH (ls [x0, x1, x2, u, u, u, x6, x7] 22) H
noncomputable def nH (x6 : Value) (H : AH) : OV := IX 0 (ls [u, u, u, u, u, u, x6] 23) H
theorem mi : au 1073741759 pP := rf
theorem TD : au 1073741752 TC := rc mi aC mi
theorem xR : au 1073741759 IV := rc mi aC mi
theorem TG : au 1073741624 TE := rc (cd xR) aC mi
theorem xV : ∀ i, au 1073741759 (IX i) := rb (cd xR) aC
theorem xS : au 1073741624 IW := rl (cx xV) mi
theorem TI : au 1073741624 TH := rc (cd xS) (cx xV) mi
theorem u1 (x6 : Value) (H : AH) : rQ x6 H =
 some ((vb true), H) :=
 (by kernel_rfl)
theorem rO (x6 : Value) (H : AH) : nH x6 H = rQ x6 H :=
 (by kernel_rfl)
theorem u3 (x0 x1 x2 x6 x7 : Value) (H : AH) : rS x0 x1 x2 x6 x7 H =
 iN x0 fun v13 =>
 (aj .other .lss x7 v13).bind fun v14 =>
 ax v14
 (CZ x0 x1 x2 x6 x7 H)
 (nH x6 H) :=
 th rfl xS (pt rfl 0 TI (by kernel_rfl))
theorem u2 (x0 x1 x2 x6 x7 : Value) (H : AH) : rR x0 x1 x2 x6 x7 H =
 rS x0 x1 x2 x6 x7 H :=
 (bt rfl (us [1, 1, 0, 1, 4]) 0 xV (li rfl (us [1, 1, 0, 1, 4, 5]) xS (by kernel_rfl)))
theorem u0 (x0 x1 x2 x6 : Value) (H : AH) : rP x0 x1 x2 x6 H =
 rR x0 x1 x2 x6 (vi 0) H :=
 (pt rfl 0 xR (pt rfl 0 TG (by kernel_rfl)))
noncomputable def Pp (x0 x1 x2 : Value) (H : AH) : OV := aW PP GG FF (us []) (ls [x0, x1, x2] 27) H pP bx pP
theorem C0 (x0 x1 x2 : Value) (H : AH) {r : Value × AH} (h : (
 iN x0 fun v15 =>
 iN x1 fun v16 =>
 (aj .other .neq v15 v16).bind fun v17 =>
 ax v17
 (some ((vb false), H))
 (rP x0 x1 x2 (vb false) H)) = some r) : FF n0 [x0, x1, x2] H = some r :=
 fo (t := Pp x0 x1 x2 H) Tryz.func75 (by kernel_rfl) (Eq.trans (pt rfl 1 TD (by kernel_rfl)) h)
theorem sL (x0 x1 x2 : Value) (H : AH) {r : Value × AH} (h : (
 ad [.n, .f 0] x0 fun v0 =>
 (ar v0 H).bind fun v1 =>
 (FF bF [(vi 8), x2, (vi 0)] H).bind fun r2 =>
 bE (ar v0 r2.2) (ar v0 H) <|
 (FF eA [v1, x1, r2.1, (vw 0), (vw 1)] r2.2).bind fun r3 =>
 some (r3.1, r3.2)) = some r) : FF im [x0, x1, x2] H = some r :=
 fo Tryz.func81 (by kernel_rfl) h
theorem pH (x0 x1 x2 : Value) (H : AH) {r : Value × AH} (h : (
 ad [.n, .f 0] x0 fun v0 =>
 (ar v0 H).bind fun v1 =>
 (FF bF [(vi 8), x2, (vi 0)] H).bind fun r2 =>
 bE (ar v0 r2.2) (ar v0 H) <|
 (FF dV [v1, x1, r2.1, (vw 0)] r2.2).bind fun r3 =>
 some (Value.tuple #[], r3.2)) = some r) : FF fZ [x0, x1, x2] H = some r :=
 fo Tryz.func82 (by kernel_rfl) h
theorem Dl (x0 : Value) (H : AH) {r : Value × AH} (h : (
 (aj .other .rem x0 (vw 2305843009213693952)).bind fun v0 =>
 (aj .other .quo x0 (vw 2305843009213693952)).bind fun v1 =>
 (bz (some .i64) v1).bind fun v2 =>
 (aj .other .gtr v2 (vi 2)).bind fun v3 =>
 ax v3
 (some (Value.tuple #[(vw 0), (vi (-1)), (vb false)], H))
 (some (Value.tuple #[v0, v2, (vb true)], H))) = some r) : FF ez [x0] H = some r :=
 fo Tryz.func87 (by kernel_rfl) h
theorem ve (x0 x1 x2 x3 : Value) (H : AH) {r : Value × AH} (h : (
 aY (Value.cells x2).toList H fun v0 H1 =>
 (aA 3 v0 H1).bind fun v2 =>
 (FF dz [x0, v2] H1).bind fun r3 =>
 (aA 3 v0 r3.2).bind fun v4 =>
 (FF cA [x0, x1, (vi 3), v4] r3.2).bind fun r5 =>
 ld [.n, .f 0] x0 r5.2 fun v6 =>
 (aA 3 v0 r5.2).bind fun v7 =>
 gk [(0, 1)] [(vw 0)] [(0, x3)] fun v8 =>
 (dh (.flat 3) v6 v7 v8 r5.2).bind fun H9 =>
 some (r3.1, H9)) = some r) : FF gv [x0, x1, x2, x3] H = some r :=
 fo Tryz.func99 (by kernel_rfl) h
theorem u7 (x0 x1 : Value) (H : AH) {r : Value × AH} (h : (
 aY (Value.cells x1).toList H fun v0 H1 =>
 ld [.n, .f 0] x0 H1 fun v2 =>
 (aA 3 v0 H1).bind fun v3 =>
 (b7 (.flat 3) (.agg #[(vw 0)]) v2 v3 false H1).bind fun v4 =>
 (i5 none 0 v4).bind fun v5 =>
 some (v5, H1)) = some r) : FF dz [x0, x1] H = some r :=
 fo Tryz.func100 (by kernel_rfl) h
noncomputable def kQ (p : List Nat) : Code := Code.sub (bJ Tryz.f101) p
noncomputable def jB : KK := ei PP (Tryz.f101).results.toList
noncomputable def Lc : KK := CQ (kQ [1]) jB bx jB
noncomputable def Vg (x0 x3 x4 : Value) (H : AH) : OV := Lc (ls [x0, u, u, x3, x4] 45) H
noncomputable def BU : KK := CQ (kQ [1, 1]) jB bx jB
noncomputable def Lb : KK := dv 1125899906842598 BU
noncomputable def Vh (x0 x3 x4 : Value) (H : AH) : OV := BU (ls [x0, u, u, x3, x4] 45) H
noncomputable def EQ : KK := CQ (kQ [1, 0, 1]) Lb bx jB
noncomputable def MP (x0 x3 x4 x5 : Value) (H : AH) : OV := EQ (ls [x0, u, u, x3, x4, x5] 44) H
noncomputable def w7 : KX := BX 0 Lb bx
noncomputable def rq : KX := py 1125899906842598 w7
noncomputable def w4 : KK := tf (kQ [1, 0, 1, 4, 5]) rq jB
noncomputable def EP : KK := dv 1125899906842566 w4
noncomputable def wb (x0 x3 x4 x5 : Value) (H : AH) : OV := w4 (ls [x0, u, u, x3, x4, x5] 44) H
noncomputable def ES : KK := CQ (kQ [1, 0, 1, 4, 5, 1]) EP rq jB
noncomputable def MQ (x0 x3 x4 x5 : Value) (H : AH) : OV := ES (ls [x0, u, u, x3, x4, x5] 44) H
noncomputable def w5 : KK := CQ (kQ [1, 0, 1, 4, 5, 1, 1]) EP rq jB
noncomputable def RR : KK := dv 1125899906842566 w5
noncomputable def MR (x0 x3 x4 x5 : Value) (H : AH) : OV := w5 (ls [x0, u, u, x3, x4, x5] 44) H
noncomputable def RS : KX := BX 1 RR rq
noncomputable def A4 (x0 x3 x4 : Value) (H : AH) : OV := w7 0 (ls [x0, u, u, x3, x4] 45) H
theorem iH : au 1125899906842607 jB := rf
theorem Of : au 1125899906842598 Lc := rc iH aC iH
theorem tr : au 1125899906842598 BU := rc iH aC iH
theorem HU : au 1125899906842566 EQ := rc (cd tr) aC iH
theorem jC : ∀ i, au 1125899906842598 (w7 i) := rb (cd tr) aC
theorem lW : au 1125899906842566 w4 := rl (cx jC) iH
theorem HV : au 1125899906842566 ES := rc (cd lW) (cx jC) iH
theorem w6 : au 1125899906842566 w5 := rc (cd lW) (cx jC) iH
theorem HW : ∀ i, au 1125899906842566 (RS i) := rb (cd w6) (cx jC)
theorem PV (x0 x3 x4 : Value) (H : AH) : Vh x0 x3 x4 H =
 ld [.n, .f 0] x0 H fun v2 =>
 (aA 3 x3 H).bind fun v3 =>
 zY 1 3 [(vi 0), (vi 0), (vi 0)] [(0, v3)] H fun v4 H5 =>
 (dN 3 24 v2 v4 H5).bind fun r6 =>
 ad [.n, .f 1] x0 fun v7 =>
 (ar v7 r6.2).bind fun v8 =>
 bE (ar v7 H5) (ar v7 r6.2) <|
 zY 1 1 [(vw 0)] [(0, (vw 0))] r6.2 fun v9 H10 =>
 (dN 1 8 v8 v9 H10).bind fun r11 =>
 st 1 [.n, .f 0] x0 r6.1 r11.2 fun H12 =>
 st 1 [.n, .f 1] x0 r11.1 H12 fun H13 =>
 ld [.n, .f 0] x0 H13 fun v14 =>
 iN v14 fun v15 =>
 (aj .other .sub v15 (vi 1)).bind fun v16 =>
 some (v16, H13) :=
 (by kernel_rfl)
theorem Jx (x0 x3 x4 x5 : Value) (H : AH) : MR x0 x3 x4 x5 H =
 (aj .other .add x5 (vi 1)).bind fun v22 =>
 wb x0 x3 x4 v22 H :=
 (by kernel_rfl)
theorem Jw (x0 x3 x4 x5 : Value) (H : AH) : MQ x0 x3 x4 x5 H =
 ld [.n, .f 0] x0 H fun v24 =>
 ldN 3 [.i 3 x5] v24 H fun v25 =>
 (aA 3 x3 H).bind fun v26 =>
 (aj (.flat 3) .eql v25 v26).bind fun v27 =>
 ax v27
 (some (x5, H))
 (MR x0 x3 x4 x5 H) :=
 (pt rfl 0 w6 (bt rfl (kQ [1, 0, 1, 4, 5, 1, 0, 4]) 1 HW (by kernel_rfl)))
theorem Dv (x0 x3 x4 : Value) (H : AH) : A4 x0 x3 x4 H = Vh x0 x3 x4 H :=
 (by kernel_rfl)
theorem yS (x0 x3 x4 x5 : Value) (H : AH) : wb x0 x3 x4 x5 H =
 ld [.n, .f 0] x0 H fun v28 =>
 iN v28 fun v29 =>
 (aj .other .lss x5 v29).bind fun v30 =>
 ax v30
 (MQ x0 x3 x4 x5 H)
 (A4 x0 x3 x4 H) :=
 th rfl lW (pt rfl 0 HV (by kernel_rfl))
theorem Jv (x0 x3 x4 x5 : Value) (H : AH) : MP x0 x3 x4 x5 H =
 wb x0 x3 x4 x5 H :=
 (bt rfl (kQ [1, 0, 1, 4]) 0 jC (li rfl (kQ [1, 0, 1, 4, 5]) lW (by kernel_rfl)))
theorem PU (x0 x3 x4 : Value) (H : AH) : Vg x0 x3 x4 H =
 MP x0 x3 x4 (vi 0) H :=
 (pt rfl 0 tr (pt rfl 0 HU (by kernel_rfl)))
noncomputable def rMp (x0 x1 : Value) (H : AH) : OV := aW PP GG FF (kQ []) (ls [x0, x1] 48) H jB bx jB
theorem Z4 (x0 x1 : Value) (H : AH) {r : Value × AH} (h : (
 aY (Value.cells x1).toList H fun v31 H32 =>
 Vg x0 v31 (vi 0) H32) = some r) : FF yB [x0, x1] H = some r :=
 fo (t := rMp x0 x1 H) Tryz.func101 (by kernel_rfl) (Eq.trans (pt rfl 0 Of (by kernel_rfl)) h)
theorem yL (x0 x1 x2 x3 : Value) (H : AH) {r : Value × AH} (h : (
 aY (Value.cells x3).toList H fun v0 H1 =>
 ld [.n, .f 2] x0 H1 fun v2 =>
 (aA 3 v0 H1).bind fun v3 =>
 gk [(0, 1), (1, 1), (2, 3)] [(vi 0), (vi 0), (vi 0), (vi 0), (vi 0)] [(0, x1), (1, x2), (2, v3)] fun v4 =>
 zY 1 5 [(vi 0), (vi 0), (vi 0), (vi 0), (vi 0)] [(0, v4)] H1 fun v5 H6 =>
 (dN 5 40 v2 v5 H6).bind fun r7 =>
 st 1 [.n, .f 2] x0 r7.1 r7.2 fun H8 =>
 some (Value.tuple #[], H8)) = some r) : FF bD [x0, x1, x2, x3] H = some r :=
 fo Tryz.func102 (by kernel_rfl) h
theorem vf (x0 x1 x2 : Value) (H : AH) {r : Value × AH} (h : (
 (aj .other .geq x0 x1).bind fun v0 =>
 (gV v0 true x0).bind fun v1 =>
 (gV v0 true x2).bind fun v2 =>
 (gB v0 true (aj .other .leq v1 v2)).bind fun v3 =>
 (aS v0 v3 (vb false)).bind fun v4 =>
 some (v4, H)) = some r) : FF dB [x0, x1, x2] H = some r :=
 fo Tryz.func118 (by kernel_rfl) h
noncomputable def kR (p : List Nat) : Code := Code.sub (bJ Tryz.f120) p
noncomputable def jD : KK := ei PP (Tryz.f120).results.toList
noncomputable def Lg : KK := CQ (kR [1, 1, 1]) jD bx jD
noncomputable def sC (x1 x4 x5 x6 : Value) (H : AH) : OV := Lg (ls [u, x1, u, u, x4, x5, x6] 23) H
noncomputable def BV : KK := CQ (kR [1, 1, 1, 1]) jD bx jD
noncomputable def Ld : KK := dv 1073741743 BV
noncomputable def sD (x4 x6 : Value) (H : AH) : OV := BV (ls [u, u, u, u, x4, u, x6] 23) H
noncomputable def Lh : KK := CQ (kR [1, 1, 1, 0, 1]) Ld bx jD
noncomputable def sE (x1 x4 x6 x14 x15 : Value) (H : AH) : OV := Lh (ls [u, x1, u, u, x4, u, x6, u, u, u, u, u, u, u, x14, x15] 14) H
noncomputable def BZ : KX := BX 0 Ld bx
noncomputable def vK : KX := py 1073741743 BZ
noncomputable def BW : KK := tf (kR [1, 1, 1, 0, 1, 4, 5]) vK jD
noncomputable def Le : KK := dv 1073692589 BW
noncomputable def je (x1 x4 x6 x14 x15 : Value) (H : AH) : OV := BW (ls [u, x1, u, u, x4, u, x6, u, u, u, u, u, u, u, x14, x15] 14) H
noncomputable def Li : KK := CQ (kR [1, 1, 1, 0, 1, 4, 5, 1, 1]) Le vK jD
noncomputable def sF (x1 x4 x6 x14 x15 : Value) (H : AH) : OV := Li (ls [u, x1, u, u, x4, u, x6, u, u, u, u, u, u, u, x14, x15] 14) H
noncomputable def BY : KK := CQ (kR [1, 1, 1, 0, 1, 4, 5, 1, 1, 1]) Le vK jD
noncomputable def W7 : KK := dv 1073692589 BY
noncomputable def sG (x1 x4 x6 x14 x15 : Value) (H : AH) : OV := BY (ls [u, x1, u, u, x4, u, x6, u, u, u, u, u, u, u, x14, x15] 14) H
noncomputable def W8 : KX := BX 1 W7 vK
noncomputable def oo (x4 x6 : Value) (H : AH) : OV := BZ 0 (ls [u, u, u, u, x4, u, x6] 23) H
theorem iI : au 1073741807 jD := rf
theorem Og : au 1073741709 Lg := rc iI aC iI
theorem tt : au 1073741743 BV := rc iI aC iI
theorem Oh : au 1073692589 Lh := rc (cd tt) aC iI
theorem lp : ∀ i, au 1073741743 (BZ i) := rb (cd tt) aC
theorem oV : au 1073692589 BW := rl (cx lp) iI
theorem Oi : au 1073692589 Li := rc (cd oV) (cx lp) iI
theorem Au : au 1073692589 BY := rc (cd oV) (cx lp) iI
theorem Oj : ∀ i, au 1073692589 (W8 i) := rb (cd Au) (cx lp)
theorem vj (x4 x6 : Value) (H : AH) : sD x4 x6 H =
 some (x6, H) :=
 (by kernel_rfl)
theorem vm (x1 x4 x6 x14 x15 : Value) (H : AH) : sG x1 x4 x6 x14 x15 H =
 (aj .other .add x15 (vi 1)).bind fun v7 =>
 je x1 x4 x6 x14 v7 H :=
 (by kernel_rfl)
theorem vl (x1 x4 x6 x14 x15 : Value) (H : AH) : sF x1 x4 x6 x14 x15 H =
 ad [.n, .f 0] x6 fun v9 =>
 (ar v9 H).bind fun v10 =>
 (FF n8 [x1] H).bind fun r11 =>
 bE (ar v9 r11.2) (ar v9 H) <|
 zY 1 1 [(.pointer none)] [(0, r11.1)] r11.2 fun v12 H13 =>
 (dN 1 8 v10 v12 H13).bind fun r14 =>
 st 1 [.n, .f 0] x6 r14.1 r14.2 fun H15 =>
 sG x1 x4 x6 x14 x15 H15 :=
 (pt rfl 0 Au (bt rfl (kR [1, 1, 1, 0, 1, 4, 5, 1, 1, 0, 4]) 1 Oj (by kernel_rfl)))
theorem sB (x4 x6 : Value) (H : AH) : oo x4 x6 H = sD x4 x6 H :=
 (by kernel_rfl)
theorem mT (x1 x4 x6 x14 x15 : Value) (H : AH) : je x1 x4 x6 x14 x15 H =
 (aj .other .lss x15 x14).bind fun v16 =>
 ax v16
 (sF x1 x4 x6 x14 x15 H)
 (oo x4 x6 H) :=
 th rfl oV (pt rfl 1 Oi (by kernel_rfl))
theorem vk (x1 x4 x6 x14 x15 : Value) (H : AH) : sE x1 x4 x6 x14 x15 H =
 je x1 x4 x6 x14 x15 H :=
 (bt rfl (kR [1, 1, 1, 0, 1, 4]) 0 lp (li rfl (kR [1, 1, 1, 0, 1, 4, 5]) oV (by kernel_rfl)))
theorem vh (x1 x4 x5 x6 : Value) (H : AH) : sC x1 x4 x5 x6 H =
 sE x1 x4 x6 x5 (vi 0) H :=
 (pt rfl 0 tt (pt rfl 0 Oh (by kernel_rfl)))
noncomputable def PO (x0 x1 : Value) (H : AH) : OV := aW PP GG FF (kR []) (ls [x0, x1] 28) H jD bx jD
theorem Dk (x0 x1 : Value) (H : AH) {r : Value × AH} (h : (
 (f3 [x0, (vi 1)]).bind fun v17 =>
 (gR [v17, (vi 16)]).bind fun v18 =>
 (FF qy [v18] H).bind fun r19 =>
 gk [(0, 1), (1, 1)] [(.slice none 0 0), (.pointer none)] [(1, r19.1)] fun v20 =>
 aY (Value.cells v20).toList r19.2 fun v21 H22 =>
 sC x1 (.pointer none) v18 v21 H22) = some r) : FF n6 [x0, x1] H = some r :=
 fo (t := PO x0 x1 H) Tryz.func120 (by kernel_rfl) (Eq.trans (pt rfl 2 Og (by kernel_rfl)) h)
noncomputable def kS (p : List Nat) : Code := Code.sub (bJ Tryz.f124) p
noncomputable def jE : KK := ei PP (Tryz.f124).results.toList
noncomputable def Ll : KK := CQ (kS [1, 1]) jE bx jE
noncomputable def Vi (x0 x1 x4 x5 : Value) (H : AH) : OV := Ll (ls [x0, x1, u, u, x4, x5] 24) H
noncomputable def B0 : KK := CQ (kS [1, 1, 1]) jE bx jE
noncomputable def Lj : KK := dv 1073741775 B0
noncomputable def Vj (x4 x5 : Value) (H : AH) : OV := B0 (ls [u, u, u, u, x4, x5] 24) H
noncomputable def Lm : KK := CQ (kS [1, 1, 0, 1]) Lj bx jE
noncomputable def Vk (x0 x1 x4 x5 x6 : Value) (H : AH) : OV := Lm (ls [x0, x1, u, u, x4, x5, x6] 23) H
noncomputable def B3 : KX := BX 0 Lj bx
noncomputable def vL : KX := py 1073741775 B3
noncomputable def B1 : KK := tf (kS [1, 1, 0, 1, 4, 5]) vL jE
noncomputable def Lk : KK := dv 1073741708 B1
noncomputable def Dw (x0 x1 x4 x5 x6 : Value) (H : AH) : OV := B1 (ls [x0, x1, u, u, x4, x5, x6] 23) H
noncomputable def Ln : KK := CQ (kS [1, 1, 0, 1, 4, 5, 1]) Lk vL jE
noncomputable def Vl (x0 x1 x4 x5 x6 : Value) (H : AH) : OV := Ln (ls [x0, x1, u, u, x4, x5, x6] 23) H
noncomputable def B2 : KK := CQ (kS [1, 1, 0, 1, 4, 5, 1, 1]) Lk vL jE
noncomputable def W9 : KK := dv 1073741708 B2
noncomputable def Vm (x0 x1 x4 x5 x6 : Value) (H : AH) : OV := B2 (ls [x0, x1, u, u, x4, x5, x6] 23) H
noncomputable def Xa : KX := BX 1 W9 vL
noncomputable def Gl (x4 x5 : Value) (H : AH) : OV := B3 0 (ls [u, u, u, u, x4, x5] 24) H
theorem iJ : au 1073741807 jE := rf
theorem Ok : au 1073741772 Ll := rc iJ aC iJ
theorem tu : au 1073741775 B0 := rc iJ aC iJ
theorem Ol : au 1073741708 Lm := rc (cd tu) aC iJ
theorem lq : ∀ i, au 1073741775 (B3 i) := rb (cd tu) aC
theorem oW : au 1073741708 B1 := rl (cx lq) iJ
theorem Om : au 1073741708 Ln := rc (cd oW) (cx lq) iJ
theorem Av : au 1073741708 B2 := rc (cd oW) (cx lq) iJ
theorem On : ∀ i, au 1073741708 (Xa i) := rb (cd Av) (cx lq)
theorem PX (x4 x5 : Value) (H : AH) : Vj x4 x5 H =
 some (x5, H) :=
 (by kernel_rfl)
theorem P1 (x0 x1 x4 x5 x6 : Value) (H : AH) : Vm x0 x1 x4 x5 x6 H =
 (aj .other .add x6 (vi 1)).bind fun v7 =>
 Dw x0 x1 x4 x5 v7 H :=
 (by kernel_rfl)
theorem PZ (x0 x1 x4 x5 x6 : Value) (H : AH) : Vl x0 x1 x4 x5 x6 H =
 ad [.n, .f 0] x5 fun v9 =>
 (ar v9 H).bind fun v10 =>
 (FF n7 [x1] H).bind fun r11 =>
 bE (ar v9 r11.2) (ar v9 H) <|
 gk [(0, 1), (1, 1), (2, 1), (3, 1)] [(.slice none 0 0), (vw 0), (vi 0), (vb false)] [(2, r11.1), (3, (vb true))] fun v12 =>
 aY (Value.cells v12).toList r11.2 fun v13 H14 =>
 zY 1 1 [(.pointer none)] [(0, v13)] H14 fun v15 H16 =>
 (dN 1 8 v10 v15 H16).bind fun r17 =>
 st 1 [.n, .f 0] x5 r17.1 r17.2 fun H18 =>
 Vm x0 x1 x4 x5 x6 H18 :=
 (pt rfl 0 Av (bt rfl (kS [1, 1, 0, 1, 4, 5, 1, 0, 4]) 1 On (by kernel_rfl)))
theorem Gm (x4 x5 : Value) (H : AH) : Gl x4 x5 H = Vj x4 x5 H :=
 (by kernel_rfl)
theorem A5 (x0 x1 x4 x5 x6 : Value) (H : AH) : Dw x0 x1 x4 x5 x6 H =
 (f3 [x0, (vi 1)]).bind fun v19 =>
 (gR [v19, (vi 16)]).bind fun v20 =>
 (aj .other .lss x6 v20).bind fun v21 =>
 ax v21
 (Vl x0 x1 x4 x5 x6 H)
 (Gl x4 x5 H) :=
 th rfl oW (pt rfl 0 Om (by kernel_rfl))
theorem PY (x0 x1 x4 x5 x6 : Value) (H : AH) : Vk x0 x1 x4 x5 x6 H =
 Dw x0 x1 x4 x5 x6 H :=
 (bt rfl (kS [1, 1, 0, 1, 4]) 0 lq (li rfl (kS [1, 1, 0, 1, 4, 5]) oW (by kernel_rfl)))
theorem PW (x0 x1 x4 x5 : Value) (H : AH) : Vi x0 x1 x4 x5 H =
 Vk x0 x1 x4 x5 (vi 0) H :=
 (pt rfl 0 tu (pt rfl 0 Ol (by kernel_rfl)))
noncomputable def rNQ (x0 x1 : Value) (H : AH) : OV := aW PP GG FF (kS []) (ls [x0, x1] 28) H jE bx jE
theorem Z5 (x0 x1 : Value) (H : AH) {r : Value × AH} (h : (
 gk [(0, 1)] [(.slice none 0 0)] [] fun v22 =>
 aY (Value.cells v22).toList H fun v23 H24 =>
 Vi x0 x1 (.pointer none) v23 H24) = some r) : FF UN [x0, x1] H = some r :=
 fo (t := rNQ x0 x1 H) Tryz.func124 (by kernel_rfl) (Eq.trans (pt rfl 1 Ok (by kernel_rfl)) h)
theorem tJ (x0 x1 x2 : Value) (H : AH) {r : Value × AH} (h : (
 aY (Value.cells x2).toList H fun v0 H1 =>
 (aA 3 v0 H1).bind fun v2 =>
 (FF cA [x0, x1, (vi 6), v2] H1).bind fun r3 =>
 some (Value.tuple #[], r3.2)) = some r) : FF dU [x0, x1, x2] H = some r :=
 fo Tryz.func125 (by kernel_rfl) h
theorem Gq (x0 x1 x2 : Value) (H : AH) {r : Value × AH} (h : (
 (f3 [x2, (vi 1)]).bind fun v0 =>
 (gR [v0, (vi 8)]).bind fun v1 =>
 (kG [(vi 0), (vi 0), (vi 0)] 3 24 v1 v1 H).bind fun r2 =>
 gk [(0, 1), (1, 1), (2, 1)] [(.pointer none), (vi 0), (.slice none 0 0)] [(0, x0), (1, x1), (2, r2.1)] fun v3 =>
 aY (Value.cells v3).toList r2.2 fun v4 H5 =>
 some (v4, H5)) = some r) : FF qx [x0, x1, x2] H = some r :=
 fo Tryz.func126 (by kernel_rfl) h
theorem yO (x0 x1 x2 : Value) (H : AH) {r : Value × AH} (h : (
 (f3 [x2, (vi 1)]).bind fun v0 =>
 (gR [v0, (vi 8)]).bind fun v1 =>
 (kG [(vi 0), (vi 0), (vi 0)] 3 24 v1 v1 H).bind fun r2 =>
 gk [(0, 1), (1, 1), (2, 1), (3, 1)] [(.pointer none), (vi 0), (vi 0), (.slice none 0 0)] [(0, x0), (1, x1), (2, v1), (3, r2.1)] fun v3 =>
 aY (Value.cells v3).toList r2.2 fun v4 H5 =>
 some (v4, H5)) = some r) : FF lc [x0, x1, x2] H = some r :=
 fo Tryz.func127 (by kernel_rfl) h
theorem tI (x0 x1 x2 x3 : Value) (H : AH) {r : Value × AH} (h : (
 aY (Value.cells x2).toList H fun v0 H1 =>
 (aA 3 v0 H1).bind fun v2 =>
 (FF cA [x0, x1, (vi 2), v2] H1).bind fun r3 =>
 ld [.n, .f 0] x0 r3.2 fun v4 =>
 (aA 3 v0 r3.2).bind fun v5 =>
 gk [(0, 1)] [(vw 0)] [(0, x3)] fun v6 =>
 (dh (.flat 3) v4 v5 v6 r3.2).bind fun H7 =>
 some (Value.tuple #[], H7)) = some r) : FF cY [x0, x1, x2, x3] H = some r :=
 fo Tryz.func128 (by kernel_rfl) h
theorem Aa (x0 x1 : Value) (H : AH) {r : Value × AH} (h : (
 aY [(vi 0), (vi 0), (vi 0)] H fun v0 H1 =>
 gk [(0, 1), (1, 1), (2, 1)] [(vi 0), (vi 0), (vi 0)] [(0, (vi 10)), (1, x0), (2, x1)] fun v2 =>
 (cW 3 v0 v2 H1).bind fun H3 =>
 (aA 3 v0 H3).bind fun v4 => some (v4, H3)) = some r) : FF jc [x0, x1] H = some r :=
 fo Tryz.func129 (by kernel_rfl) h
theorem tR (x0 x1 x2 x3 : Value) (H : AH) {r : Value × AH} (h : (
 aY (Value.cells x2).toList H fun v0 H1 =>
 (aA 3 v0 H1).bind fun v2 =>
 (FF bD [x0, x1, (vi 2), v2] H1).bind fun r3 =>
 (aA 3 v0 r3.2).bind fun v4 =>
 (FF yB [x0, v4] r3.2).bind fun r5 =>
 ld [.n, .f 1] x0 r5.2 fun v6 =>
 st 1 [.i 1 r5.1] v6 x3 r5.2 fun H7 =>
 some (Value.tuple #[], H7)) = some r) : FF dV [x0, x1, x2, x3] H = some r :=
 fo Tryz.func130 (by kernel_rfl) h
theorem HI (x0 x1 x2 : Value) (H : AH) {r : Value × AH} (h : (
 ld [.n, .f 0] x0 H fun v0 =>
 ld [.n, .f 1] x0 H fun v1 =>
 gk [(0, 1), (1, 1), (2, 1), (3, 1)] [(vi 0), (.slice none 0 0), (vi 0), (vw 0)] [(0, x2)] fun v2 =>
 (FF fX [v0, x1, v1, v2] H).bind fun r3 =>
 some (Value.tuple #[], r3.2)) = some r) : FF jo [x0, x1, x2] H = some r :=
 fo Tryz.func131 (by kernel_rfl) h
theorem HD (x0 x1 : Value) (H : AH) {r : Value × AH} (h : (
 aY [(vi 0), (.slice none 0 0), (vi 0), (vw 0)] H fun v0 H1 =>
 gk [(0, 1), (1, 1), (2, 1), (3, 1)] [(vi 0), (.slice none 0 0), (vi 0), (vw 0)] [(0, x1)] fun v2 =>
 (cW 4 v0 v2 H1).bind fun H3 =>
 (aA 4 v0 H3).bind fun v4 => some (Value.tuple #[v4, (vb true)], H3)) = some r) : FF jl [x0, x1] H = some r :=
 fo Tryz.func132 (by kernel_rfl) h
noncomputable def fP (p : List Nat) : Code := Code.sub (bJ Tryz.f137) p
noncomputable def g8 : KK := ei PP (Tryz.f137).results.toList
noncomputable def Ls : KK := CQ (fP [1]) g8 bx g8
noncomputable def Vz (x0 x1 x2 x3 x8 : Value) (H : AH) : OV := Ls (ls [x0, x1, x2, x3, u, u, u, u, x8] 44) H
noncomputable def B8 : KX := BX 0 g8 bx
noncomputable def vM : KX := py 9007199254740991 B8
noncomputable def B5 : KK := tf (fP [1, 4, 5]) vM g8
noncomputable def Lq : KK := dv 9007199254740720 B5
noncomputable def DJ (x0 x1 x2 x3 x8 : Value) (H : AH) : OV := B5 (ls [x0, x1, x2, x3, u, u, u, u, x8] 44) H
noncomputable def Lt : KK := CQ (fP [1, 4, 5, 1]) Lq vM g8
noncomputable def VA (x0 x1 x2 x3 x8 : Value) (H : AH) : OV := Lt (ls [x0, x1, x2, x3, u, u, u, u, x8] 44) H
noncomputable def B6 : KK := CQ (fP [1, 4, 5, 1, 1]) Lq vM g8
noncomputable def B4 : KK := dv 9007199254740720 B6
noncomputable def VB (x0 x1 x2 x3 x8 : Value) (H : AH) : OV := B6 (ls [x0, x1, x2, x3, u, u, u, u, x8] 44) H
noncomputable def Lv : KX := BX 1 B4 vM
noncomputable def Lw : KX := py 9007199254740720 Lv
noncomputable def Lu : KK := CQ (fP [1, 4, 5, 1, 0, 4, 1]) B4 Lw g8
noncomputable def VC (x0 x1 x2 x3 x8 x9 : Value) (H : AH) : OV := Lu (ls [x0, x1, x2, x3, u, u, u, u, x8, x9] 43) H
noncomputable def B9 : KX := BX 2 B4 Lw
noncomputable def vN : KX := py 9007199254740720 B9
noncomputable def B7 : KK := tf (fP [1, 4, 5, 1, 0, 4, 1, 4, 5]) vN g8
noncomputable def Lr : KK := dv 9007199254740208 B7
noncomputable def DK (x0 x1 x2 x3 x8 x9 : Value) (H : AH) : OV := B7 (ls [x0, x1, x2, x3, u, u, u, u, x8, x9] 43) H
noncomputable def ET : KK := CQ (fP [1, 4, 5, 1, 0, 4, 1, 4, 5, 1]) Lr vN g8
noncomputable def M6 (x0 x1 x2 x3 x8 x9 : Value) (H : AH) : OV := ET (ls [x0, x1, x2, x3, u, u, u, u, x8, x9] 43) H
noncomputable def w8 : KK := CQ (fP [1, 4, 5, 1, 0, 4, 1, 4, 5, 1, 1]) Lr vN g8
noncomputable def RT : KK := dv 9007199254740208 w8
noncomputable def M7 (x0 x1 x2 x3 x8 x9 : Value) (H : AH) : OV := w8 (ls [x0, x1, x2, x3, u, u, u, u, x8, x9] 43) H
noncomputable def RU : KX := BX 3 RT vN
noncomputable def Gu (x0 x1 x2 x3 x8 : Value) (H : AH) : OV := B9 2 (ls [x0, x1, x2, x3, u, u, u, u, x8] 44) H
noncomputable def Gt (H : AH) : OV := B8 0 (ls [] 53) H
theorem fv : au 9007199254740991 g8 := rf
theorem Ot : au 9007199254740720 Ls := rc fv aC fv
theorem lr : ∀ i, au 9007199254740991 (B8 i) := rb fv aC
theorem oX : au 9007199254740720 B5 := rl (cx lr) fv
theorem Ou : au 9007199254740720 Lt := rc (cd oX) (cx lr) fv
theorem oY : au 9007199254740720 B6 := rc (cd oX) (cx lr) fv
theorem tv : ∀ i, au 9007199254740720 (Lv i) := rb (cd oY) (cx lr)
theorem Ov : au 9007199254740208 Lu := rc (cd oY) (cx tv) fv
theorem lu : ∀ i, au 9007199254740720 (B9 i) := rb (cd oY) (cx tv)
theorem oZ : au 9007199254740208 B7 := rl (cx lu) fv
theorem HY : au 9007199254740208 ET := rc (cd oZ) (cx lu) fv
theorem w9 : au 9007199254740208 w8 := rc (cd oZ) (cx lu) fv
theorem HZ : ∀ i, au 9007199254740208 (RU i) := rb (cd w9) (cx lu)
theorem Bh (x0 x1 x2 x3 x8 : Value) (H : AH) : VB x0 x1 x2 x3 x8 H =
 (aj .other .add x8 (vi 1)).bind fun v5 =>
 DJ x0 x1 x2 x3 v5 H :=
 (by kernel_rfl)
theorem JV (x0 x1 x2 x3 x8 x9 : Value) (H : AH) : M7 x0 x1 x2 x3 x8 x9 H =
 (aj .other .sub x9 (vi 1)).bind fun v12 =>
 DK x0 x1 x2 x3 x8 v12 H :=
 (by kernel_rfl)
theorem JU (x0 x1 x2 x3 x8 x9 : Value) (H : AH) : M6 x0 x1 x2 x3 x8 x9 H =
 (aj .other .sub x9 (vi 1)).bind fun v14 =>
 (aj .other .sub x9 (vi 1)).bind fun v15 =>
 ldN 7 [.i 7 v15] x0 H fun v16 =>
 ldN 7 [.i 7 x9] x0 H fun v17 =>
 st 7 [.i 7 x9] x0 v16 H fun H18 =>
 st 7 [.i 7 v14] x0 v17 H18 fun H19 =>
 M7 x0 x1 x2 x3 x8 x9 H19 :=
 (pt rfl 0 w9 (bt rfl (fP [1, 4, 5, 1, 0, 4, 1, 4, 5, 1, 0, 4]) 3 HZ (by kernel_rfl)))
theorem uJ (x0 x1 x2 x3 x8 : Value) (H : AH) : Gu x0 x1 x2 x3 x8 H = VB x0 x1 x2 x3 x8 H :=
 (by kernel_rfl)
theorem Bi (x0 x1 x2 x3 x8 x9 : Value) (H : AH) : DK x0 x1 x2 x3 x8 x9 H =
 (aj .other .gtr x9 x1).bind fun v20 =>
 (gV v20 true x3).bind fun v21 =>
 (gV v20 true x0).bind fun v22 =>
 (gV v20 true x9).bind fun v23 =>
 kU v20 true  7 [.i 7 v23] v22 H fun v24 =>
 (gV v20 true x0).bind fun v25 =>
 (gV v20 true x9).bind fun v26 =>
 (gB v20 true (aj .other .sub v26 (vi 1))).bind fun v27 =>
 kU v20 true  7 [.i 7 v27] v25 H fun v28 =>
 (gE v20 true H ((bN v21 [v24, v28]).bind fun c => FF c.1 c.2 H)).bind fun r29 =>
 (gB v20 true (aj .other .lss r29.1 (vi 0))).bind fun v30 =>
 (aS v20 v30 (vb false)).bind fun v31 =>
 ax v31
 (M6 x0 x1 x2 x3 x8 x9 r29.2)
 (Gu x0 x1 x2 x3 x8 r29.2) :=
 th rfl oZ (pt rfl 0 HY (by kernel_rfl))
theorem Qi (x0 x1 x2 x3 x8 x9 : Value) (H : AH) : VC x0 x1 x2 x3 x8 x9 H =
 DK x0 x1 x2 x3 x8 x9 H :=
 (bt rfl (fP [1, 4, 5, 1, 0, 4, 1, 4]) 2 lu (li rfl (fP [1, 4, 5, 1, 0, 4, 1, 4, 5]) oZ (by kernel_rfl)))
theorem Qh (x0 x1 x2 x3 x8 : Value) (H : AH) : VA x0 x1 x2 x3 x8 H =
 VC x0 x1 x2 x3 x8 x8 H :=
 (pt rfl 0 oY (bt rfl (fP [1, 4, 5, 1, 0, 4]) 1 tv (pt rfl 0 Ov (by kernel_rfl))))
theorem uI (H : AH) : Gt H = some (Value.tuple #[], H) :=
 (by kernel_rfl)
theorem ua (x0 x1 x2 x3 x8 : Value) (H : AH) : DJ x0 x1 x2 x3 x8 H =
 (aj .other .lss x8 x2).bind fun v32 =>
 ax v32
 (VA x0 x1 x2 x3 x8 H)
 (Gt H) :=
 th rfl oX (pt rfl 0 Ou (by kernel_rfl))
theorem Qg (x0 x1 x2 x3 x8 : Value) (H : AH) : Vz x0 x1 x2 x3 x8 H =
 DJ x0 x1 x2 x3 x8 H :=
 (bt rfl (fP [1, 4]) 0 lr (li rfl (fP [1, 4, 5]) oX (by kernel_rfl)))
noncomputable def sIn (x0 x1 x2 x3 : Value) (H : AH) : OV := aW PP GG FF (fP []) (ls [x0, x1, x2, x3] 49) H g8 bx g8
theorem aaD (x0 x1 x2 x3 : Value) (H : AH) {r : Value × AH} (h : (
 (aj .other .add x1 (vi 1)).bind fun v33 =>
 Vz x0 x1 x2 x3 v33 H) = some r) : FF MG [x0, x1, x2, x3] H = some r :=
 fo (t := sIn x0 x1 x2 x3 H) Tryz.func137 (by kernel_rfl) (Eq.trans (pt rfl 0 Ot (by kernel_rfl)) h)
theorem sM (x0 x1 x2 x3 : Value) (H : AH) {r : Value × AH} (h : (
 ad [.n, .f 0] x0 fun v0 =>
 (ar v0 H).bind fun v1 =>
 (FF bF [(vi 10), x2, x3] H).bind fun r2 =>
 bE (ar v0 r2.2) (ar v0 H) <|
 (FF cR [v1, x1, r2.1] r2.2).bind fun r3 =>
 (aj .other .eql r3.1 (vw 0)).bind fun v4 =>
 ax v4
 (some (Value.tuple #[(vi 0), (vi 0), (vb false)], r3.2))
 ((aj .other .quo r3.1 (vw 4294967296)).bind fun v5 =>
 (bz (some .i64) v5).bind fun v6 =>
 (aj .other .sub v6 (vi 1)).bind fun v7 =>
 (aj .other .rem r3.1 (vw 4294967296)).bind fun v8 =>
 (bz (some .i64) v8).bind fun v9 =>
 some (Value.tuple #[v7, v9, (vb true)], r3.2))) = some r) : FF io [x0, x1, x2, x3] H = some r :=
 fo Tryz.func141 (by kernel_rfl) h
theorem vq (x0 x1 x2 x3 x4 : Value) (H : AH) {r : Value × AH} (h : (
 aY (Value.cells x2).toList H fun v0 H1 =>
 (aA 3 v0 H1).bind fun v2 =>
 (FF yB [x0, v2] H1).bind fun r3 =>
 ld [.n, .f 1] x0 r3.2 fun v4 =>
 ld [.i 1 r3.1] v4 r3.2 fun v5 =>
 (aj .other .neq v5 x3).bind fun v6 =>
 ax v6
 ((aA 3 v0 r3.2).bind fun v7 =>
 (FF bD [x0, x1, (vi 4), v7] r3.2).bind fun r8 =>
 some ((vb false), r8.2))
 ((aA 3 v0 r3.2).bind fun v9 =>
 (FF bD [x0, x1, (vi 3), v9] r3.2).bind fun r10 =>
 ld [.n, .f 1] x0 r10.2 fun v11 =>
 st 1 [.i 1 r3.1] v11 x4 r10.2 fun H12 =>
 some ((vb true), H12))) = some r) : FF eA [x0, x1, x2, x3, x4] H = some r :=
 fo Tryz.func142 (by kernel_rfl) h
theorem vo (x0 x1 x2 : Value) (H : AH) {r : Value × AH} (h : (
 aY (Value.cells x2).toList H fun v0 H1 =>
 (aA 3 v0 H1).bind fun v2 =>
 (FF bD [x0, x1, (vi 1), v2] H1).bind fun r3 =>
 (aA 3 v0 r3.2).bind fun v4 =>
 (FF yB [x0, v4] r3.2).bind fun r5 =>
 ld [.n, .f 1] x0 r5.2 fun v6 =>
 ld [.i 1 r5.1] v6 r5.2 fun v7 =>
 some (v7, r5.2)) = some r) : FF cR [x0, x1, x2] H = some r :=
 fo Tryz.func144 (by kernel_rfl) h
theorem vd (x0 x1 x2 x3 : Value) (H : AH) {r : Value × AH} (h : (
 aY (Value.cells x3).toList H fun v0 H1 =>
 ld [.n, .f 1] x0 H1 fun v2 =>
 (aA 3 v0 H1).bind fun v3 =>
 gk [(0, 1), (1, 1), (2, 3)] [(vi 0), (vi 0), (vi 0), (vi 0), (vi 0)] [(0, x1), (1, x2), (2, v3)] fun v4 =>
 zY 1 5 [(vi 0), (vi 0), (vi 0), (vi 0), (vi 0)] [(0, v4)] H1 fun v5 H6 =>
 (dN 5 40 v2 v5 H6).bind fun r7 =>
 st 1 [.n, .f 1] x0 r7.1 r7.2 fun H8 =>
 some (Value.tuple #[], H8)) = some r) : FF cA [x0, x1, x2, x3] H = some r :=
 fo Tryz.func151 (by kernel_rfl) h
noncomputable def Cf (p : List Nat) : Code := Code.sub (bJ Tryz.f155) p
noncomputable def p9 : KK := ei PP (Tryz.f155).results.toList
noncomputable def LG : KK := CQ (Cf [1, 1]) p9 bx p9
noncomputable def pU (x1 x4 x5 x6 x7 x8 : Value) (H : AH) : OV := LG (ls [u, x1, u, u, x4, x5, x6, x7, x8] 47) H
noncomputable def Cg : KK := CQ (Cf [1, 1, 1]) p9 bx p9
noncomputable def Xd : KK := dv 72057594037927887 Cg
noncomputable def pV (x4 x5 : Value) (H : AH) : OV := Cg (ls [u, u, u, u, x4, x5] 50) H
noncomputable def Xe : KX := BX 0 Xd bx
theorem ry : au 72057594037927887 p9 := rf
theorem OF : au 72057594037927437 LG := rc ry aC ry
theorem AA : au 72057594037927887 Cg := rc ry aC ry
theorem OG : ∀ i, au 72057594037927887 (Xe i) := rb (cd AA) aC
theorem e8 (x4 x5 : Value) (H : AH) : pV x4 x5 H =
 some (Value.tuple #[(vw 0), (vb false)], H) :=
 (by kernel_rfl)
theorem tO (x1 x4 x5 x6 x7 x8 : Value) (H : AH) : pU x1 x4 x5 x6 x7 x8 H =
 (pi .not x8).bind fun v3 =>
 ax v3
 (some (Value.tuple #[(vw 0), (vb false)], H))
 ((aj .other .eql x1 (vi 0)).bind fun v4 =>
 (gV v4 true x7).bind fun v5 =>
 (gB v4 true (aj .other .neq v5 (vi 2))).bind fun v6 =>
 (aS v4 v6 (vb false)).bind fun v7 =>
 (gV v7 true x6).bind fun v8 =>
 (gB v7 true (aj .other .lss v8 (vw 2305843009213693951))).bind fun v9 =>
 (aS v7 v9 (vb false)).bind fun v10 =>
 ax v10
 ((aj .other .add x6 (vw 1)).bind fun v11 =>
 (FF jU [v11, (vi 1)] H).bind fun r12 =>
 (ai r12.1 0).bind fun v13 =>
 (ai r12.1 1).bind fun v14 =>
 some (Value.tuple #[v13, v14], r12.2))
 ((aj .other .eql x1 (vi 1)).bind fun v15 =>
 (gV v15 true x7).bind fun v16 =>
 (gB v15 true (aj .other .eql v16 (vi 1))).bind fun v17 =>
 (aS v15 v17 (vb false)).bind fun v18 =>
 ax v18
 ((FF jU [x6, (vi 0)] H).bind fun r19 =>
 (ai r19.1 0).bind fun v20 =>
 (ai r19.1 1).bind fun v21 =>
 some (Value.tuple #[v20, v21], r19.2))
 ((aj .other .eql x1 (vi 2)).bind fun v22 =>
 (gV v22 true x7).bind fun v23 =>
 (gB v22 true (aj .other .eql v23 (vi 0))).bind fun v24 =>
 (aS v22 v24 (vb false)).bind fun v25 =>
 ax v25
 ((FF jU [x6, (vi 2)] H).bind fun r26 =>
 (ai r26.1 0).bind fun v27 =>
 (ai r26.1 1).bind fun v28 =>
 some (Value.tuple #[v27, v28], r26.2))
 (pV x4 x5 H)))) :=
 (pt rfl 0 AA (bt rfl (Cf [1, 1, 0, 4]) 0 OG (by kernel_rfl)))
noncomputable def Jr (x0 x1 : Value) (H : AH) : OV := aW PP GG FF (Cf []) (ls [x0, x1] 54) H p9 bx p9
theorem z4 (x0 x1 : Value) (H : AH) {r : Value × AH} (h : (
 (FF ez [x0] H).bind fun r29 =>
 (ai r29.1 0).bind fun v30 =>
 (ai r29.1 1).bind fun v31 =>
 (ai r29.1 2).bind fun v32 =>
 pU x1 (vw 0) (vb false) v30 v31 v32 r29.2) = some r) : FF mp [x0, x1] H = some r :=
 fo (t := Jr x0 x1 H) Tryz.func155 (by kernel_rfl) (Eq.trans (pt rfl 1 OF (by kernel_rfl)) h)
theorem pI (x0 x1 x2 : Value) (H : AH) {r : Value × AH} (h : (
 ad [.n, .f 0] x0 fun v0 =>
 (ar v0 H).bind fun v1 =>
 (FF iz [x2] H).bind fun r2 =>
 bE (ar v0 r2.2) (ar v0 H) <|
 (FF dA [v1, x1, r2.1, (vw 0), (vw 1)] r2.2).bind fun r3 =>
 some (r3.1, r3.2)) = some r) : FF f0 [x0, x1, x2] H = some r :=
 fo Tryz.func160 (by kernel_rfl) h
noncomputable def ff (p : List Nat) : Code := Code.sub (bJ Tryz.f164) p
noncomputable def fQ : KK := ei PP (Tryz.f164).results.toList
noncomputable def LJ : KK := CQ (ff [1, 1, 1]) fQ bx fQ
noncomputable def uM (x0 x2 x3 : Value) (H : AH) : OV := LJ (ls [x0, u, x2, x3] 38) H
noncomputable def Ci : KK := CQ (ff [1, 1, 1, 1]) fQ bx fQ
noncomputable def Xf : KK := dv 4398046511091 Ci
noncomputable def oF (x2 x3 : Value) (H : AH) : OV := Ci (ls [u, u, x2, x3] 38) H
noncomputable def Cj : KK := CQ (ff [1, 1, 1, 1, 1]) fQ bx fQ
noncomputable def LH : KK := dv 4398046511091 Cj
noncomputable def uN (x2 x3 : Value) (H : AH) : OV := Cj (ls [u, u, x2, x3] 38) H
noncomputable def LK : KK := CQ (ff [1, 1, 1, 1, 0, 1]) LH bx fQ
noncomputable def uO (x2 x3 x28 x29 : Value) (H : AH) : OV := LK (ls [u, u, x2, x3, u, u, u, u, u, u, u, u, u, u, u, u, u, u, u, u, u, u, u, u, u, u, u, u, x28, x29] 12) H
noncomputable def Cn : KX := BX 2 LH bx
noncomputable def vQ : KX := py 4398046511091 Cn
noncomputable def Ck : KK := tf (ff [1, 1, 1, 1, 0, 1, 4, 5]) vQ fQ
noncomputable def LI : KK := dv 4397241204723 Ck
noncomputable def kO (x2 x3 x28 x29 : Value) (H : AH) : OV := Ck (ls [u, u, x2, x3, u, u, u, u, u, u, u, u, u, u, u, u, u, u, u, u, u, u, u, u, u, u, u, u, x28, x29] 12) H
noncomputable def LL : KK := CQ (ff [1, 1, 1, 1, 0, 1, 4, 5, 1, 1]) LI vQ fQ
noncomputable def uP (x2 x3 x28 x29 : Value) (H : AH) : OV := LL (ls [u, u, x2, x3, u, u, u, u, u, u, u, u, u, u, u, u, u, u, u, u, u, u, u, u, u, u, u, u, x28, x29] 12) H
noncomputable def Cm : KK := CQ (ff [1, 1, 1, 1, 0, 1, 4, 5, 1, 1, 1]) LI vQ fQ
noncomputable def Xg : KK := dv 4397241204723 Cm
noncomputable def uQ (x2 x3 x28 x29 : Value) (H : AH) : OV := Cm (ls [u, u, x2, x3, u, u, u, u, u, u, u, u, u, u, u, u, u, u, u, u, u, u, u, u, u, u, u, u, x28, x29] 12) H
noncomputable def Xh : KX := BX 3 Xg vQ
noncomputable def pY (x2 x3 : Value) (H : AH) : OV := Cn 2 (ls [u, u, x2, x3] 38) H
noncomputable def xI : KX := BX 0 Xf bx
noncomputable def xJ : KX := py 4398046511091 xI
noncomputable def xH : KK := tf (ff [1, 1, 1, 0, 4, 5]) xJ fQ
noncomputable def Fk : KK := dv 4398046511090 xH
noncomputable def jg (x0 x2 x3 : Value) (H : AH) : OV := xH (ls [x0, u, x2, x3] 38) H
noncomputable def Fl : KK := CQ (ff [1, 1, 1, 0, 4, 5, 1]) Fk xJ fQ
noncomputable def tc (x0 x2 x3 : Value) (H : AH) : OV := Fl (ls [x0, u, x2, x3] 38) H
noncomputable def Sh : KX := BX 1 Fk xJ
noncomputable def oE (x2 x3 : Value) (H : AH) : OV := xI 0 (ls [u, u, x2, x3] 38) H
theorem dS : au 4398046511099 fQ := rf
theorem OH : au 4398046511090 LJ := rc dS aC dS
theorem AB : au 4398046511091 Ci := rc dS aC dS
theorem tB : au 4398046511091 Cj := rc dS aC dS
theorem OI : au 4397241204723 LK := rc (cd tB) aC dS
theorem ly : ∀ i, au 4398046511091 (Cn i) := rb (cd tB) aC
theorem o3 : au 4397241204723 Ck := rl (cx ly) dS
theorem OJ : au 4397241204723 LL := rc (cd o3) (cx ly) dS
theorem AC : au 4397241204723 Cm := rc (cd o3) (cx ly) dS
theorem OK : ∀ i, au 4397241204723 (Xh i) := rb (cd AC) (cx ly)
theorem mf : ∀ i, au 4398046511091 (xI i) := rb (cd AB) aC
theorem me : au 4398046511090 xH := rl (cx mf) dS
theorem Ix : au 4398046511090 Fl := rc (cd me) (cx mf) dS
theorem Iy : ∀ i, au 4398046511090 (Sh i) := rb (cd me) (cx mf)
theorem zv (x2 x3 : Value) (H : AH) : uN x2 x3 H =
 some (x3, H) :=
 (by kernel_rfl)
theorem zy (x2 x3 x28 x29 : Value) (H : AH) : uQ x2 x3 x28 x29 H =
 (aj .other .add x29 (vi 1)).bind fun v8 =>
 kO x2 x3 x28 v8 H :=
 (by kernel_rfl)
theorem zx (x2 x3 x28 x29 : Value) (H : AH) : uP x2 x3 x28 x29 H =
 ld [.n, .f 2] x3 H fun v10 =>
 zY 1 1 [(vi 0)] [(0, (vi (-1)))] H fun v11 H12 =>
 (dN 1 8 v10 v11 H12).bind fun r13 =>
 st 1 [.n, .f 2] x3 r13.1 r13.2 fun H14 =>
 uQ x2 x3 x28 x29 H14 :=
 (pt rfl 0 AC (bt rfl (ff [1, 1, 1, 1, 0, 1, 4, 5, 1, 1, 0, 4]) 3 OK (by kernel_rfl)))
theorem ue (x2 x3 : Value) (H : AH) : pY x2 x3 H = uN x2 x3 H :=
 (by kernel_rfl)
theorem oG (x2 x3 x28 x29 : Value) (H : AH) : kO x2 x3 x28 x29 H =
 (aj .other .lss x29 x28).bind fun v15 =>
 ax v15
 (uP x2 x3 x28 x29 H)
 (pY x2 x3 H) :=
 th rfl o3 (pt rfl 1 OJ (by kernel_rfl))
theorem zw (x2 x3 x28 x29 : Value) (H : AH) : uO x2 x3 x28 x29 H =
 kO x2 x3 x28 x29 H :=
 (bt rfl (ff [1, 1, 1, 1, 0, 1, 4]) 2 ly (li rfl (ff [1, 1, 1, 1, 0, 1, 4, 5]) o3 (by kernel_rfl)))
theorem zu (x2 x3 : Value) (H : AH) : oF x2 x3 H =
 ld [.n, .f 1] x3 H fun v16 =>
 (aj .other .mul (vi 2) v16).bind fun v17 =>
 uO x2 x3 v17 (vi 0) H :=
 (pt rfl 0 tB (pt rfl 0 OI (by kernel_rfl)))
theorem vC (x0 x2 x3 : Value) (H : AH) : tc x0 x2 x3 H =
 ld [.n, .f 1] x3 H fun v22 =>
 (aj .other .mul v22 (vi 2)).bind fun v23 =>
 st 1 [.n, .f 1] x3 v23 H fun H24 =>
 jg x0 x2 x3 H24 :=
 (bt rfl (ff [1, 1, 1, 0, 4, 5, 1, 4]) 1 Iy (by kernel_rfl))
theorem kN (x2 x3 : Value) (H : AH) : oE x2 x3 H = oF x2 x3 H :=
 (by kernel_rfl)
theorem mZ (x0 x2 x3 : Value) (H : AH) : jg x0 x2 x3 H =
 ld [.n, .f 1] x3 H fun v25 =>
 (aj .other .lss v25 x0).bind fun v26 =>
 ax v26
 (tc x0 x2 x3 H)
 (oE x2 x3 H) :=
 th rfl me (pt rfl 0 Ix (by kernel_rfl))
theorem zt (x0 x2 x3 : Value) (H : AH) : uM x0 x2 x3 H =
 jg x0 x2 x3 H :=
 (pt rfl 0 AB (bt rfl (ff [1, 1, 1, 0, 4]) 0 mf (li rfl (ff [1, 1, 1, 0, 4, 5]) me (by kernel_rfl))))
noncomputable def We (x0 : Value) (H : AH) : OV := aW PP GG FF (ff []) (ls [x0] 41) H fQ bx fQ
theorem GU (x0 : Value) (H : AH) {r : Value × AH} (h : (
 (f3 [x0, (vi 1)]).bind fun v27 =>
 (gR [v27, (vi 16)]).bind fun v28 =>
 (kG [(vw 0), (vi 0), (vb false)] 3 24 v28 v28 H).bind fun r29 =>
 gk [(0, 1), (1, 1), (2, 1)] [(.slice none 0 0), (vi 0), (.slice none 0 0)] [(0, r29.1), (1, (vi 1))] fun v30 =>
 aY (Value.cells v30).toList r29.2 fun v31 H32 =>
 uM v28 (.pointer none) v31 H32) = some r) : FF qy [x0] H = some r :=
 fo (t := We x0 H) Tryz.func164 (by kernel_rfl) (Eq.trans (pt rfl 2 OH (by kernel_rfl)) h)
theorem D4 (x0 : Value) (H : AH) {r : Value × AH} (h : (
 (FF oa [x0] H).bind fun r0 =>
 (FF qr [] r0.2).bind fun r1 =>
 gk [(0, 1), (1, 1), (2, 1)] [(.pointer none), (.pointer none), (vi 0)] [(0, r0.1), (1, r1.1), (2, x0)] fun v2 =>
 aY (Value.cells v2).toList r1.2 fun v3 H4 =>
 some (v3, H4)) = some r) : FF n8 [x0] H = some r :=
 fo Tryz.func165 (by kernel_rfl) h
theorem Dm (x0 : Value) (H : AH) {r : Value × AH} (h : (
 (f3 [x0, (vi 0)]).bind fun v0 =>
 (gR [v0, (vi 40)]).bind fun v1 =>
 some (v1, H)) = some r) : FF n7 [x0] H = some r :=
 fo Tryz.func174 (by kernel_rfl) h
theorem pD (x0 x1 x2 x3 : Value) (H : AH) {r : Value × AH} (h : (
 aY (Value.cells x3).toList H fun v0 H1 =>
 ad [.n, .f 12] x0 fun v2 =>
 (ar v2 H1).bind fun v3 =>
 ad [.n, .f 11] x0 fun v4 =>
 (ar v4 H1).bind fun v5 =>
 (b7 .int (vi 0) v5 x2 false H1).bind fun v6 =>
 (aA 4 v0 H1).bind fun v7 =>
 (FF kB [v7] H1).bind fun r8 =>
 bE (ar v2 r8.2) (ar v2 H1) <|
 bE (ar v4 r8.2) (ar v4 H1) <|
 bE (b7 .int (vi 0) v5 x2 false r8.2) (b7 .int (vi 0) v5 x2 false H1) <|
 gk [(0, 1), (1, 1), (2, 1), (3, 4)] [(vi 0), (vi 0), (vi 0), (vi 0), (.slice none 0 0), (vi 0), (vw 0)] [(0, x1), (1, x2), (2, v6), (3, r8.1)] fun v9 =>
 zY 1 7 [(vi 0), (vi 0), (vi 0), (vi 0), (.slice none 0 0), (vi 0), (vw 0)] [(0, v9)] r8.2 fun v10 H11 =>
 (dN 7 72 v3 v10 H11).bind fun r12 =>
 st 1 [.n, .f 12] x0 r12.1 r12.2 fun H13 =>
 some (Value.tuple #[], H13)) = some r) : FF fX [x0, x1, x2, x3] H = some r :=
 fo Tryz.func175 (by kernel_rfl) h
theorem pJ (x0 x1 x2 x3 : Value) (H : AH) {r : Value × AH} (h : (
 ad [.n, .f 0] x0 fun v0 =>
 (ar v0 H).bind fun v1 =>
 (FF jc [x2, x3] H).bind fun r2 =>
 bE (ar v0 r2.2) (ar v0 H) <|
 (FF cz [v1, x1, r2.1] r2.2).bind fun r3 =>
 (aj .other .eql r3.1 (vw 0)).bind fun v4 =>
 ax v4
 (some (Value.tuple #[(vi 0), (vi 0), (vb false)], r3.2))
 ((aj .other .shr r3.1 (vw 32)).bind fun v5 =>
 (bz (some .i64) v5).bind fun v6 =>
 (aj .other .sub v6 (vi 1)).bind fun v7 =>
 (aj .other .and r3.1 (vw 4294967295)).bind fun v8 =>
 (bz (some .i64) v8).bind fun v9 =>
 some (Value.tuple #[v7, v9, (vb true)], r3.2))) = some r) : FF f2 [x0, x1, x2, x3] H = some r :=
 fo Tryz.func176 (by kernel_rfl) h
theorem oC (x0 : Value) (H : AH) {r : Value × AH} (h : (
 ld [.n, .f 2] x0 H fun v0 =>
 some (v0, H)) = some r) : FF fj [x0] H = some r :=
 fo Tryz.func177 (by kernel_rfl) h
theorem vc (x0 x1 x2 x3 x4 : Value) (H : AH) {r : Value × AH} (h : (
 aY (Value.cells x2).toList H fun v0 H1 =>
 (aA 3 v0 H1).bind fun v2 =>
 (FF dz [x0, v2] H1).bind fun r3 =>
 (aj .other .neq r3.1 x3).bind fun v4 =>
 ax v4
 ((aA 3 v0 r3.2).bind fun v5 =>
 (FF cA [x0, x1, (vi 4), v5] r3.2).bind fun r6 =>
 some ((vb false), r6.2))
 ((aA 3 v0 r3.2).bind fun v7 =>
 (FF gv [x0, x1, v7, x4] r3.2).bind fun r8 =>
 some ((vb true), r8.2))) = some r) : FF dA [x0, x1, x2, x3, x4] H = some r :=
 fo Tryz.func183 (by kernel_rfl) h
theorem Ae (x0 : Value) (H : AH) {r : Value × AH} (h : (
 (FF gD [x0] H).bind fun r0 =>
 (pi .not r0.1).bind fun v1 =>
 ax v1
 (some ((vi (-1)), r0.2))
 ((aj .other .shr x0 (vw 61)).bind fun v2 =>
 (bz (some .i64) v2).bind fun v3 =>
 some (v3, r0.2))) = some r) : FF eZ [x0] H = some r :=
 fo Tryz.func184 (by kernel_rfl) h
theorem Eg (x0 x1 : Value) (H : AH) {r : Value × AH} (h : (
 (aj .other .gtr x0 (vw 2305843009213693951)).bind fun v0 =>
 (gV v0 false x1).bind fun v1 =>
 (gB v0 false (aj .other .lss v1 (vi 0))).bind fun v2 =>
 (aS v0 (vb true) v2).bind fun v3 =>
 (gV v3 false x1).bind fun v4 =>
 (gB v3 false (aj .other .geq v4 (vi 3))).bind fun v5 =>
 (aS v3 (vb true) v5).bind fun v6 =>
 ax v6
 (some (Value.tuple #[(vw 0), (vb false)], H))
 ((bz (some .u64) x1).bind fun v7 =>
 (aj .other .shl v7 (vw 61)).bind fun v8 =>
 (aj .other .or v8 x0).bind fun v9 =>
 some (Value.tuple #[v9, (vb true)], H))) = some r) : FF oc [x0, x1] H = some r :=
 fo Tryz.func185 (by kernel_rfl) h
theorem Ac (x0 : Value) (H : AH) {r : Value × AH} (h : (
 (FF gD [x0] H).bind fun r0 =>
 (pi .not r0.1).bind fun v1 =>
 ax v1
 (some ((vw 0), r0.2))
 ((aj .other .and x0 (vw 2305843009213693951)).bind fun v2 =>
 some (v2, r0.2))) = some r) : FF dg [x0] H = some r :=
 fo Tryz.func186 (by kernel_rfl) h
theorem Gf (x0 x1 : Value) (H : AH) {r : Value × AH} (h : (
 (aj .other .gtr x0 (vw 2305843009213693951)).bind fun v0 =>
 (gV v0 false x1).bind fun v1 =>
 (gB v0 false (aj .other .lss v1 (vi 0))).bind fun v2 =>
 (aS v0 (vb true) v2).bind fun v3 =>
 (gV v3 false x1).bind fun v4 =>
 (gB v3 false (aj .other .gtr v4 (vi 2))).bind fun v5 =>
 (aS v3 (vb true) v5).bind fun v6 =>
 ax v6
 (some (Value.tuple #[(vw 0), (vb false)], H))
 ((bz (some .u64) x1).bind fun v7 =>
 (aj .other .mul v7 (vw 2305843009213693952)).bind fun v8 =>
 (aj .other .add v8 x0).bind fun v9 =>
 some (Value.tuple #[v9, (vb true)], H))) = some r) : FF jU [x0, x1] H = some r :=
 fo Tryz.func187 (by kernel_rfl) h
theorem zp (x0 : Value) (H : AH) {r : Value × AH} (h : (
 aY [(vi 0), (vi 0), (vi 0)] H fun v0 H1 =>
 gk [(0, 1), (1, 1), (2, 1)] [(vi 0), (vi 0), (vi 0)] [(0, (vi 8)), (1, x0)] fun v2 =>
 (cW 3 v0 v2 H1).bind fun H3 =>
 (aA 3 v0 H3).bind fun v4 => some (v4, H3)) = some r) : FF iz [x0] H = some r :=
 fo Tryz.func190 (by kernel_rfl) h
theorem Ee (x0 : Value) (H : AH) {r : Value × AH} (h : (
 (FF mq [x0] H).bind fun r0 =>
 zW r0.2 fun v1 H2 =>
 gk [(0, 1), (1, 1), (2, 192), (194, 3), (197, 1)] [(vw 0), (vi 0), (.slice none 0 0), (.slice none 0 0), (.slice none 0 0), (.slice none 0 0), (.slice none 0 0), (.slice none 0 0), (.slice none 0 0), (.slice none 0 0), (.slice none 0 0), (.slice none 0 0), (.slice none 0 0), (.slice none 0 0), (.slice none 0 0), (.slice none 0 0), (.slice none 0 0), (.slice none 0 0), (.slice none 0 0), (.slice none 0 0), (.slice none 0 0), (.slice none 0 0), (.slice none 0 0), (.slice none 0 0), (.slice none 0 0), (.slice none 0 0), (.slice none 0 0), (.slice none 0 0), (.slice none 0 0), (.slice none 0 0), (.slice none 0 0), (.slice none 0 0), (.slice none 0 0), (.slice none 0 0), (.slice none 0 0), (.slice none 0 0), (.slice none 0 0), (.slice none 0 0), (.slice none 0 0), (.slice none 0 0), (.slice none 0 0), (.slice none 0 0), (.slice none 0 0), (.slice none 0 0), (.slice none 0 0), (.slice none 0 0), (.slice none 0 0), (.slice none 0 0), (.slice none 0 0), (.slice none 0 0), (.slice none 0 0), (.slice none 0 0), (.slice none 0 0), (.slice none 0 0), (.slice none 0 0), (.slice none 0 0), (.slice none 0 0), (.slice none 0 0), (.slice none 0 0), (.slice none 0 0), (.slice none 0 0), (.slice none 0 0), (.slice none 0 0), (.slice none 0 0), (.slice none 0 0), (.slice none 0 0), (.slice none 0 0), (.slice none 0 0), (.slice none 0 0), (.slice none 0 0), (.slice none 0 0), (.slice none 0 0), (.slice none 0 0), (.slice none 0 0), (.slice none 0 0), (.slice none 0 0), (.slice none 0 0), (.slice none 0 0), (.slice none 0 0), (.slice none 0 0), (.slice none 0 0), (.slice none 0 0), (.slice none 0 0), (.slice none 0 0), (.slice none 0 0), (.slice none 0 0), (.slice none 0 0), (.slice none 0 0), (.slice none 0 0), (.slice none 0 0), (.slice none 0 0), (.slice none 0 0), (.slice none 0 0), (.slice none 0 0), (.slice none 0 0), (.slice none 0 0), (.slice none 0 0), (.slice none 0 0), (.slice none 0 0), (.slice none 0 0), (.slice none 0 0), (.slice none 0 0), (.slice none 0 0), (.slice none 0 0), (.slice none 0 0), (.slice none 0 0), (.slice none 0 0), (.slice none 0 0), (.slice none 0 0), (.slice none 0 0), (.slice none 0 0), (.slice none 0 0), (.slice none 0 0), (.slice none 0 0), (.slice none 0 0), (.slice none 0 0), (.slice none 0 0), (.slice none 0 0), (.slice none 0 0), (.slice none 0 0), (.slice none 0 0), (.slice none 0 0), (.slice none 0 0), (.slice none 0 0), (.slice none 0 0), (.slice none 0 0), (.slice none 0 0), (.slice none 0 0), (.slice none 0 0), (.slice none 0 0), (.slice none 0 0), (.slice none 0 0), (.slice none 0 0), (.slice none 0 0), (.slice none 0 0), (.slice none 0 0), (.slice none 0 0), (.slice none 0 0), (.slice none 0 0), (.slice none 0 0), (.slice none 0 0), (.slice none 0 0), (.slice none 0 0), (.slice none 0 0), (.slice none 0 0), (.slice none 0 0), (.slice none 0 0), (.slice none 0 0), (.slice none 0 0), (.slice none 0 0), (.slice none 0 0), (.slice none 0 0), (.slice none 0 0), (.slice none 0 0), (.slice none 0 0), (.slice none 0 0), (.slice none 0 0), (.slice none 0 0), (.slice none 0 0), (.slice none 0 0), (.slice none 0 0), (.slice none 0 0), (.slice none 0 0), (.slice none 0 0), (.slice none 0 0), (.slice none 0 0), (.slice none 0 0), (.slice none 0 0), (.slice none 0 0), (.slice none 0 0), (.slice none 0 0), (.slice none 0 0), (.slice none 0 0), (.slice none 0 0), (.slice none 0 0), (.slice none 0 0), (.slice none 0 0), (.slice none 0 0), (.slice none 0 0), (.slice none 0 0), (.slice none 0 0), (.slice none 0 0), (.slice none 0 0), (.slice none 0 0), (.slice none 0 0), (.slice none 0 0), (.slice none 0 0), (.slice none 0 0), (.slice none 0 0), (.slice none 0 0), (.slice none 0 0), (.slice none 0 0), (.slice none 0 0), (.slice none 0 0), (vw 0), (vw 0), (vw 0), (.map none)] [(1, r0.1), (4, v1)] fun v3 =>
 aY (Value.cells v3).toList H2 fun v4 H5 =>
 some (v4, H5)) = some r) : FF oa [x0] H = some r :=
 fo Tryz.func195 (by kernel_rfl) h
theorem FH (H : AH) {r : Value × AH} (h : (
 zW H fun v0 H1 =>
 gk [(0, 1), (1, 1)] [(.slice none 0 0), (.map none)] [(1, v0)] fun v2 =>
 aY (Value.cells v2).toList H1 fun v3 H4 =>
 some (v3, H4)) = some r) : FF qr [] H = some r :=
 fo Tryz.func196 (by kernel_rfl) h
theorem u6 (x0 x1 x2 : Value) (H : AH) {r : Value × AH} (h : (
 aY (Value.cells x2).toList H fun v0 H1 =>
 (aA 3 v0 H1).bind fun v2 =>
 (FF cA [x0, x1, (vi 1), v2] H1).bind fun r3 =>
 (aA 3 v0 r3.2).bind fun v4 =>
 (FF dz [x0, v4] r3.2).bind fun r5 =>
 some (r5.1, r5.2)) = some r) : FF cz [x0, x1, x2] H = some r :=
 fo Tryz.func211 (by kernel_rfl) h
theorem u9 (x0 x1 x2 : Value) (H : AH) {r : Value × AH} (h : (
 aY (Value.cells x2).toList H fun v0 H1 =>
 (aA 3 v0 H1).bind fun v2 =>
 (FF cA [x0, x1, (vi 5), v2] H1).bind fun r3 =>
 some (Value.tuple #[], r3.2)) = some r) : FF jT [x0, x1, x2] H = some r :=
 fo Tryz.func212 (by kernel_rfl) h
theorem Ad (x0 : Value) (H : AH) {r : Value × AH} (h : (
 (aj .other .shr x0 (vw 61)).bind fun v0 =>
 (aj .other .lss v0 (vw 3)).bind fun v1 =>
 some (v1, H)) = some r) : FF gD [x0] H = some r :=
 fo Tryz.func217 (by kernel_rfl) h
theorem ng (x0 x1 x2 : Value) (H : AH) {r : Value × AH} (h : (
 ad [.n, .f 0] x0 fun v0 =>
 (ar v0 H).bind fun v1 =>
 (FF iz [x2] H).bind fun r2 =>
 bE (ar v0 r2.2) (ar v0 H) <|
 (FF cY [v1, x1, r2.1, (vw 0)] r2.2).bind fun r3 =>
 some (Value.tuple #[], r3.2)) = some r) : FF eC [x0, x1, x2] H = some r :=
 fo Tryz.func221 (by kernel_rfl) h
theorem Ab (x0 : Value) (H : AH) {r : Value × AH} (h : (
 (f3 [x0, (vi 0)]).bind fun v0 =>
 (gR [v0, (vi 40)]).bind fun v1 =>
 some (v1, H)) = some r) : FF mq [x0] H = some r :=
 fo Tryz.func224 (by kernel_rfl) h
theorem Ef (x0 : Value) (H : AH) {r : Value × AH} (h : (
 (FF gD [x0] H).bind fun r0 =>
 (pi .not r0.1).bind fun v1 =>
 (gV v1 false x0).bind fun v2 =>
 (gE v1 false r0.2 (FF eZ [v2] r0.2)).bind fun r3 =>
 (gB v1 false (aj .other .eql r3.1 (vi 2))).bind fun v4 =>
 (aS v1 (vb true) v4).bind fun v5 =>
 (gV v5 false x0).bind fun v6 =>
 (gE v5 false r3.2 (FF dg [v6] r3.2)).bind fun r7 =>
 (gB v5 false (aj .other .eql r7.1 (vw 2305843009213693951))).bind fun v8 =>
 (aS v5 (vb true) v8).bind fun v9 =>
 ax v9
 (some (Value.tuple #[(vw 0), (vb false)], r7.2))
 ((FF dg [x0] r7.2).bind fun r10 =>
 (aj .other .add r10.1 (vw 1)).bind fun v11 =>
 (FF oc [v11, (vi 1)] r10.2).bind fun r12 =>
 (ai r12.1 0).bind fun v13 =>
 (ai r12.1 1).bind fun v14 =>
 some (Value.tuple #[v13, v14], r12.2))) = some r) : FF kC [x0] H = some r :=
 fo Tryz.func288 (by kernel_rfl) h
theorem zD (n : Int) : IntKind.wrap .u64 n = n % 18446744073709551616 := by simp [IntKind.wrap, IntKind.bits, IntKind.signed]
theorem jy {n : Int} (h0 : 0 ≤ n) (h1 : n < 18446744073709551616) : IntKind.wrap .u64 n = n := by rw [zD]; omega
theorem lR {n : Int} (h0 : -9223372036854775808 ≤ n) (h1 : n < 9223372036854775808) : IntKind.wrap .i64 n = n := by
 simp [IntKind.wrap, IntKind.bits, IntKind.signed]
 split <;> omega
theorem pg (a : Nat) (h : a < 18446744073709551616) : (BitVec.ofInt 64 (a : Int)).toNat = a := by
 rw [BitVec.toNat_ofInt]
 omega
theorem Hq {a b : Nat} (ha : a < 18446744073709551616) (hb : b < 18446744073709551616) : Go.bits .and .u64 (a : Int) (b : Int) = ((a &&& b : Nat) : Int) := by
 show IntKind.wrap .u64 (((BitVec.ofInt 64 (a : Int) &&& BitVec.ofInt 64 (b : Int)).toNat : Nat) : Int) = _
 rw [BitVec.toNat_and, pg a ha, pg b hb]
 have : a &&& b ≤ a := Nat.and_le_left
 exact jy (by omega) (by omega)
theorem abH {a b : Nat} (ha : a < 18446744073709551616) (hb : b < 18446744073709551616) : a ||| b < 18446744073709551616 := Nat.or_lt_two_pow (n := 64) ha hb
theorem NW {a b : Nat} (ha : a < 18446744073709551616) (hb : b < 18446744073709551616) : Go.bits .or .u64 (a : Int) (b : Int) = ((a ||| b : Nat) : Int) := by
 show IntKind.wrap .u64 (((BitVec.ofInt 64 (a : Int) ||| BitVec.ofInt 64 (b : Int)).toNat : Nat) : Int) = _
 rw [BitVec.toNat_or, pg a ha, pg b hb]
 have := abH ha hb
 exact jy (by omega) (by omega)
section
variable {cl : TCls}
theorem WU {a b : Nat} (ha : a < 18446744073709551616) (hb : b < 18446744073709551616) : aj cl .and (vu a) (vu b) = some (vu (a &&& b)) := by simp only [aj, j7, if_true, Hq ha hb]
theorem Ru {a b : Nat} (ha : a < 18446744073709551616) (hb : b < 18446744073709551616) : aj cl .or (vu a) (vu b) = some (vu (a ||| b)) := by simp only [aj, j7, if_true, NW ha hb]
theorem dW {a b : Nat} (h : a + b < 18446744073709551616) : aj cl .add (vu a) (vu b) = some (vu (a + b)) := by
 simp only [aj, j7, if_true]
 rw [jy (by omega) (by omega)]
 simp
theorem NV {a b : Nat} : aj cl .mul (vu a) (vu b) = some (vu (a * b % 18446744073709551616)) := by
 simp only [aj, j7, if_true]
 rw [zD]
 simp
theorem Al {a b : Nat} (h : b ≤ a) (ha : a < 18446744073709551616) : aj cl .sub (vu a) (vu b) = some (vu (a - b)) := by
 simp only [aj, j7, if_true]
 rw [jy (by omega) (by omega)]
 show some (Value.int .u64 ((a : Int) - (b : Int))) = some (Value.int .u64 ((a - b : Nat) : Int))
 rw [Int.ofNat_sub h]
theorem Aj {a b : Nat} (h : b ≠ 0) (ha : a < 18446744073709551616) : aj cl .quo (vu a) (vu b) = some (vu (a / b)) := by
 simp only [aj, j7, if_true]
 rw [if_neg (by omega)]
 have h1 : (a : Int).tdiv (b : Int) = ((a / b : Nat) : Int) := (Int.ofNat_tdiv a b).symm
 have h2 : a / b ≤ a := Nat.div_le_self a b
 rw [h1]
 generalize a / b = q at h2
 rw [jy (by omega) (by omega)]
theorem g6 {a b : Nat} (h : b ≠ 0) : aj cl .rem (vu a) (vu b) = some (vu (a % b)) := by
 simp only [aj, j7, if_true]
 rw [if_neg (by omega)]
 have h1 : (a : Int).tmod (b : Int) = ((a % b : Nat) : Int) := (Int.ofNat_tmod a b).symm
 rw [h1]
theorem tk {a : Nat} {k : IntKind} {n : Nat} (hn : n ≤ 64) : aj cl .shr (vu a) (.int k (n : Int)) = some (vu (a / 2 ^ n)) := by
 simp only [aj, j0]
 rw [if_neg (by omega)]
 simp only [IntKind.bits, Int.toNat_natCast, Nat.min_eq_left hn]
 have : (a : Int).fdiv (2 ^ n) = ((a / 2 ^ n : Nat) : Int) := by
  rw [Int.fdiv_eq_ediv_of_nonneg _ (by exact Int.le_of_lt (Int.pow_pos (by omega)))]
  simp
 rw [this]
theorem Ak {a : Nat} {k : IntKind} {n : Nat} (hn : n ≤ 64) : aj cl .shl (vu a) (.int k (n : Int)) = some (vu (a * 2 ^ n % 18446744073709551616)) := by
 simp only [aj, j0]
 rw [if_neg (by omega)]
 simp only [IntKind.bits, Int.toNat_natCast, Nat.min_eq_left hn]
 rw [zD]
 simp
theorem aB {a b : Int} (h0 : -9223372036854775808 ≤ a + b) (h1 : a + b < 9223372036854775808) : aj cl .add (vi a) (vi b) = some (vi (a + b)) := by simp only [aj, j7, if_true, lR h0 h1]
theorem a8 {a b : Int} (h0 : -9223372036854775808 ≤ a - b) (h1 : a - b < 9223372036854775808) : aj cl .sub (vi a) (vi b) = some (vi (a - b)) := by simp only [aj, j7, if_true, lR h0 h1]
theorem oP {k : IntKind} {a b : Int} : aj cl .lss (.int k a) (.int k b) = some (vb (decide (a < b))) ∧ aj cl .leq (.int k a) (.int k b) = some (vb (decide (a ≤ b))) ∧ aj cl .gtr (.int k a) (.int k b) = some (vb (decide (b < a))) ∧
 aj cl .geq (.int k a) (.int k b) = some (vb (decide (b ≤ a))) ∧ aj cl .eql (.int k a) (.int k b) = some (vb (a == b)) ∧ aj cl .neq (.int k a) (.int k b) = some (vb (a != b)) := by
 simp [aj, j7]
theorem oQ {k : IntKind} {a b : Int} : aj cl .lss (.int k a) (.int k b) = some (vb (decide (a < b))) := oP.1
theorem KR {k : IntKind} {a b : Int} : aj cl .leq (.int k a) (.int k b) = some (vb (decide (a ≤ b))) := oP.2.1
theorem BH {k : IntKind} {a b : Int} : aj cl .gtr (.int k a) (.int k b) = some (vb (decide (b < a))) := oP.2.2.1
theorem vF {k : IntKind} {a b : Int} : aj cl .geq (.int k a) (.int k b) = some (vb (decide (b ≤ a))) := oP.2.2.2.1
theorem kg {k : IntKind} {a b : Int} : aj cl .eql (.int k a) (.int k b) = some (vb (a == b)) := oP.2.2.2.2.1
theorem vG {k : IntKind} {a b : Int} : aj cl .neq (.int k a) (.int k b) = some (vb (a != b)) := oP.2.2.2.2.2
theorem ug {a : Bool} : pi .not (vb a) = some (vb (!a)) := rfl
theorem i3 {a b : Int} : f3 [vi a, vi b] = some (vi (max a b)) := by
 simp only [f3]
 congr 2
 split <;> omega
theorem i4 {a b : Int} : gR [vi a, vi b] = some (vi (min a b)) := by
 simp only [gR]
 congr 2
 split <;> omega
end
abbrev Hp := Nat → Option AObj
def SP : Type := Hp → Prop
theorem SP.ext {P Q : SP} (h : ∀ x, P x ↔ Q x) : P = Q := funext fun x => propext (h x)
def sep (P Q : SP) : SP := fun h => ∃ a b : Hp, (∀ i, a i = none ∨ b i = none) ∧ (h = fun i => (a i).or (b i)) ∧ P a ∧ Q b
instance : Mul SP := ⟨sep⟩
def emp : SP := fun h => h = fun _ => none
theorem U1 {α : Type} {a b : Option α} (h : a = none ∨ b = none) : a.or b = b.or a := by
 rcases h with rfl | rfl <;> simp
theorem s3 (P Q : SP) : P * Q = Q * P := by
 have one : ∀ (P Q : SP) h, sep P Q h → sep Q P h := by
  rintro P Q h ⟨a, b, hd, rfl, ha, hb⟩
  exact ⟨b, a, fun i => (hd i).symm, funext fun i => U1 (hd i), hb, ha⟩
 exact SP.ext fun h => ⟨one P Q h, one Q P h⟩
theorem ap (P Q R : SP) : P * Q * R = P * (Q * R) := by
 apply SP.ext
 intro h
 constructor
 ·rintro ⟨ab, c, hd, rfl, ⟨a, b, hd2, rfl, ha, hb⟩, hc⟩
  refine ⟨a, fun i => (b i).or (c i), fun i => ?_, funext fun i => ?_, ha, b, c, fun i => ?_, rfl, hb, hc⟩
  ·have h1 := hd i
   have h2 := hd2 i
   cases ha' : a i <;> cases hb' : b i <;> cases hc' : c i <;> simp_all
  ·exact Option.or_assoc
  ·have h1 := hd i
   have h2 := hd2 i
   cases ha' : a i <;> cases hb' : b i <;> cases hc' : c i <;> simp_all
 ·rintro ⟨a, bc, hd, rfl, ha, b, c, hd2, rfl, hb, hc⟩
  refine ⟨fun i => (a i).or (b i), c, fun i => ?_, funext fun i => ?_, ⟨a, b, fun i => ?_, rfl, ha, hb⟩, hc⟩
  ·have h1 := hd i
   have h2 := hd2 i
   cases ha' : a i <;> cases hb' : b i <;> cases hc' : c i <;> simp_all
  ·exact Option.or_assoc.symm
  ·have h1 := hd i
   have h2 := hd2 i
   cases ha' : a i <;> cases hb' : b i <;> cases hc' : c i <;> simp_all
theorem gN (P : SP) : P * emp = P := by
 apply SP.ext
 intro h
 constructor
 ·rintro ⟨a, b, hd, rfl, ha, hb⟩
  have hb : b = fun _ => none := hb
  subst hb
  simpa using ha
 ·intro h'
  exact ⟨h, fun _ => none, fun i => .inr rfl, by simp, h', rfl⟩
theorem oU (P : SP) : emp * P = P := by rw [s3, gN]
instance : Std.Associative (α := SP) (· * ·) := ⟨ap⟩
instance : Std.Commutative (α := SP) (· * ·) := ⟨s3⟩
theorem bQ (P Q R : SP) : P * (Q * R) = Q * (P * R) := by rw [← ap, s3 P Q, ap]
def blk (b : Nat) (o : AObj) : SP := fun h => h = fun i => if i = b then some o else none
def ex {α : Type} (P : α → SP) : SP := fun h => ∃ x, P x h
def pu (p : Prop) : SP := fun h => p ∧ h = fun _ => none
def ae (P : SP) (H : AH) : Prop := ∃ h : Hp, P h ∧ ∀ i o, h i = some o → H.get i = some o
theorem ae.left {P Q : SP} {H : AH} (h : ae (P * Q) H) : ae P H := by
 obtain ⟨x, ⟨a, b, hd, rfl, ha, hb⟩, hx⟩ := h
 exact ⟨a, ha, fun i o hi => hx i o (by simp [hi])⟩
theorem ae.right {P Q : SP} {H : AH} (h : ae (P * Q) H) : ae Q H := by rw [s3] at h; exact h.left
theorem ae.get {b : Nat} {o : AObj} {H : AH} (h : ae (blk b o) H) : H.get b = some o := by
 obtain ⟨x, hx, hg⟩ := h
 have hx : x = _ := hx
 exact hg b o (by rw [hx]; simp)
theorem ae.ex {α : Type} {F : α → SP} {R : SP} {H : AH} : ae (ex F * R) H ↔ ∃ x, ae (F x * R) H := by
 constructor
 ·rintro ⟨h, ⟨a, b, hd, rfl, ⟨x, ha⟩, hb⟩, hx⟩
  exact ⟨x, _, ⟨a, b, hd, rfl, ha, hb⟩, hx⟩
 ·rintro ⟨x, h, ⟨a, b, hd, rfl, ha, hb⟩, hx⟩
  exact ⟨_, ⟨a, b, hd, rfl, ⟨x, ha⟩, hb⟩, hx⟩
theorem ae.pu {p : Prop} {R : SP} {H : AH} : ae (pu p * R) H ↔ p ∧ ae R H := by
 constructor
 ·rintro ⟨h, ⟨a, b, hd, rfl, ⟨hp, ha⟩, hb⟩, hx⟩
  subst ha
  exact ⟨hp, b, hb, fun i o hi => hx i o (by simp [hi])⟩
 ·rintro ⟨hp, h, hr, hx⟩
  exact ⟨h, ⟨fun _ => none, h, fun i => .inl rfl, by simp, ⟨hp, rfl⟩, hr⟩, hx⟩
theorem ae.emp (H : AH) : ae emp H := ⟨fun _ => none, rfl, fun i o h => by cases h⟩
theorem ae.lt {b : Nat} {o : AObj} {R : SP} {H : AH} (h : ae (blk b o * R) H) : b < H.size := AH.lt_of_get h.left.get
theorem ae.set {b : Nat} {o : AObj} {R : SP} {H : AH} (o' : AObj) (h : ae (blk b o * R) H) : ae (blk b o' * R) (H.set b o') := by
 have hb := h.lt
 obtain ⟨x, ⟨a, r, hd, rfl, ha, hr⟩, hx⟩ := h
 have ha : a = _ := ha
 subst ha
 refine ⟨_, ⟨_, r, fun i => ?_, rfl, rfl, hr⟩, fun i o2 hi => ?_⟩
 ·have := hd i
  simp only at this ⊢
  by_cases hi : i = b
  ·rw [if_pos hi] at this ⊢
   rcases this with h | h
   ·cases h
   ·exact .inr h
  ·rw [if_neg hi]; exact .inl rfl
 ·by_cases hib : i = b
  ·subst hib
   simp only [if_true, Option.some_or, Option.some.injEq] at hi
   subst hi
   exact AH.get_set_eq hb
  ·simp only [if_neg hib, Option.none_or] at hi
   rw [AH.get_set_ne hib]
   exact hx i o2 (by simp only [if_neg hib, Option.none_or]; exact hi)
theorem ae.push {R : SP} {H : AH} (o : AObj) (h : ae R H) : ae (blk H.size o * R) (H.push o) := by
 obtain ⟨r, hr, hx⟩ := h
 refine ⟨_, ⟨_, r, fun i => ?_, rfl, rfl, hr⟩, fun i o2 hi => ?_⟩
 ·by_cases hi : i = H.size
  ·subst hi
   right
   cases hr' : r H.size with
   | none => rfl
   | some o' => have := AH.lt_of_get (hx _ _ hr'); omega
  ·rw [if_neg hi]; exact .inl rfl
 ·by_cases hib : i = H.size
  ·subst hib
   simp only [if_true, Option.some_or, Option.some.injEq] at hi
   subst hi
   exact AH.get_push_new _ _
  ·simp only [if_neg hib, Option.none_or] at hi
   have := hx i o2 hi
   rw [AH.get_push_old (AH.lt_of_get this)]
   exact this
theorem ae.dead {b : Nat} {o : AObj} {R : SP} {H : AH} (h : ae (blk b o * R) H) : ae R (H.set b .dead) := (h.set .dead).right
class Fr (P A : SP) (R : outParam SP) : Prop where
 eq : P = A * R
instance (priority := high) Fr.refl (A : SP) : Fr A A emp := ⟨(gN A).symm⟩
instance (priority := high) Fr.emp (P : SP) : Fr P emp P := ⟨(oU P).symm⟩
instance Fr.left (P Q A R : SP) [h : Fr P A R] : Fr (P * Q) A (R * Q) := ⟨by rw [h.eq, ap]⟩
instance Fr.right (P Q A R : SP) [h : Fr Q A R] : Fr (P * Q) A (P * R) := ⟨by rw [h.eq, bQ]⟩
instance (priority := high) Fr.both (P A B R1 R2 : SP) [h1 : Fr P A R1] [h2 : Fr R1 B R2] : Fr P (A * B) R2 := ⟨by rw [h1.eq, h2.eq, ap]⟩
class Hs (P : SP) (b : Nat) (o : outParam AObj) : Prop where
 get : ∀ {H : AH}, ae P H → H.get b = some o
instance Hs.one (b : Nat) (o : AObj) : Hs (blk b o) b o := ⟨ae.get⟩
instance Hs.left (P Q : SP) (b : Nat) (o : AObj) [h : Hs P b o] : Hs (P * Q) b o := ⟨fun k => h.get k.left⟩
instance Hs.right (P Q : SP) (b : Nat) (o : AObj) [h : Hs Q b o] : Hs (P * Q) b o := ⟨fun k => h.get k.right⟩
class Up (P : SP) (b : Nat) (o' : AObj) (P' : outParam SP) : Prop where
 up : ∃ o R, P = blk b o * R ∧ P' = blk b o' * R
instance Up.one (b : Nat) (o o' : AObj) : Up (blk b o) b o' (blk b o') := ⟨o, emp, (gN _).symm, (gN _).symm⟩
instance Up.left (P Q : SP) (b : Nat) (o' : AObj) (P' : SP) [h : Up P b o' P'] : Up (P * Q) b o' (P' * Q) := ⟨by
 obtain ⟨o, R, e1, e2⟩ := h.up
 exact ⟨o, R * Q, by rw [e1, ap], by rw [e2, ap]⟩⟩
instance Up.right (P Q : SP) (b : Nat) (o' : AObj) (Q' : SP) [h : Up Q b o' Q'] : Up (P * Q) b o' (P * Q') := ⟨by
 obtain ⟨o, R, e1, e2⟩ := h.up
 exact ⟨o, P * R, by rw [e1, bQ], by rw [e2, bQ]⟩⟩
theorem Up.set {P P' : SP} {b : Nat} {o' : AObj} [h : Up P b o' P'] {H : AH} (k : ae P H) : ae P' (H.set b o') := by
 obtain ⟨o, R, rfl, rfl⟩ := h.up
 exact k.set o'
theorem ae.fr {P A R : SP} {H : AH} (h : ae P H) [f : Fr P A R] : ae (A * R) H := by rw [← f.eq]; exact h
theorem ae.to {P A R : SP} {H : AH} (h : ae P H) [f : Fr P A R] : ae A H := h.fr.left
def wp (x : OV) (Q : Value → AH → Prop) : Prop := ∃ v H, x = some (v, H) ∧ Q v H
abbrev vp (b : Nat) : Value := .pointer (some ⟨b, 0, none⟩)
abbrev qY (b o : Nat) : Value := .pointer (some ⟨b, o, none⟩)
abbrev vs (b n e : Nat) : Value := .slice (some ⟨b, 0, none⟩) n e
theorem aq {v : Value} {H : AH} {Q : Value → AH → Prop} (h : Q v H) : wp (some (v, H)) Q := ⟨v, H, rfl, h⟩
theorem wp.mono {x : OV} {Q Q' : Value → AH → Prop} (h : wp x Q) (k : ∀ v H, Q v H → Q' v H) : wp x Q' := let ⟨v, H, e, q⟩ := h; ⟨v, H, e, k v H q⟩
theorem aw {x y : OV} {Q : Value → AH → Prop} (h : ∀ r, x = some r → y = some r) (k : wp x Q) : wp y Q := let ⟨v, H, e, q⟩ := k; ⟨v, H, h _ e, q⟩
theorem ag {x y : OV} {Q : Value → AH → Prop} (h : y = x) (k : wp x Q) : wp y Q := by rw [h]; exact k
theorem aa {x : Option Value} {v : Value} {k : Value → OV} {Q : Value → AH → Prop} (e : x = some v) (h : wp (k v) Q) : wp (x.bind k) Q := by rw [e]; exact h
theorem ca {b : Bool} {x y : OV} {Q : Value → AH → Prop} (ht : b = true → wp x Q) (hf : b = false → wp y Q) : wp (ax (vb b) x y) Q := by
 cases b
 ·exact hf rfl
 ·exact ht rfl
theorem BD {x y : Option Value} {k : OV} {Q : Value → AH → Prop} (e : x = y) (h : wp k Q) : wp (bE x y k) Q := by rw [Zv e]; exact h
theorem aT {x : Option Value} {k : OV} {Q : Value → AH → Prop} (h : wp k Q) : wp (bE x x k) Q := BD rfl h
section
variable {P P' R : SP} {H : AH} {b o f n len e : Nat} {ro : Bool} {cs : List Value} {v x : Value} {Q : Value → AH → Prop}
theorem I6 (h : ae P H) [i : Hs P b (.cells ro cs)] (hv : cs[o]? = some v) : ar (qY b o) H = some v := by
 simp only [ar, qX, dn, Option.bind_some, i.get h]
 exact hv
theorem I7 (h : ae P H) [i : Hs P b (.cells ro cs)] (hn : o + n ≤ cs.length) : aA n (qY b o) H = some (.agg ((cs.drop o).take n).toArray) := by
 simp only [aA, qX, dn, Option.bind_some, i.get h]
 rw [if_pos hn]
theorem V6 (h : ae P H) [i : Hs P b (.cells false cs)] (hx : x.cells.size = n) (hn : o + n ≤ cs.length) (hc : x.cells.toList.all Value.oneCell' = true) :
 cW n (qY b o) x H = some (H.set b (.cells false (splice cs o x.cells.toList))) := by
 simp only [cW, qX, Option.bind_some, i.get h]
 rw [if_pos ⟨hx, hn, hc⟩]
theorem aO {k : Value → AH → OV} (h : ae P H) (hk : ∀ b H', ae (blk b (.cells false cs) * P) H' → wp (k (vp b) H') Q) : wp (aY cs H k) Q := hk _ _ (h.push _)
theorem bR {k : Value → AH → OV} (h : ae P H) (hk : ∀ b H', ae (blk b (.map [] 0) * P) H' → wp (k (.map (some b)) H') Q) : wp (zW H k) Q := hk _ _ (h.push _)
theorem abV {k : Value → AH → OV} (h : ae P H) (hk : ∀ b H', ae (blk b (.cells false cs) * P) H' → wp (k (vs b len e) H') Q) : wp (abM len e cs H k) Q := hk _ _ (h.push _)
theorem NC {zero : List Value} {xs : List (Nat × Value)} {k : Value → AH → OV} (h : ae P H) (hf : cu (XS e) (List.replicate len zero).flatten xs = some cs) (hk : ∀ b H', ae (blk b (.cells false cs) * P) H' → wp (k (vs b len e) H') Q) :
 wp (zY len e zero xs H k) Q := by
 unfold zY
 rw [hf]
 exact abV h hk
theorem G0 {ps : List (Nat × Nat)} {zero : List Value} {xs : List (Nat × Value)} {k : Value → OV} (hf : cu (fun i => ps[i]?) zero xs = some cs) (hk : wp (k (.agg cs.toArray)) Q) : wp (gk ps zero xs k) Q := by
 unfold gk
 rw [hf]
 exact hk
theorem cm {n : Nat} {a : Option Addr} {k : Value → OV} (hk : wp (k (vi n)) Q) : wp (iN (.slice a n e) k) Q := hk
theorem aa2 {R : Type} {b o f : Nat} {p : List Stp} {k : Value → Option R} : ad (.f f :: p) (qY b o) k = ad p (qY b (o + f)) k := rfl
theorem Rn {R : Type} {b o n e i : Nat} {c : Nat} {p : List Stp} {kk : IntKind} {k : Value → Option R} (h : i < n) : ad (.i e (.int kk (i : Int)) :: p) (.slice (some ⟨b, o, none⟩) n c) k = ad p (qY b (o + i * e)) k := by
 show (lM e (.slice (some ⟨b, o, none⟩) n c) (.int kk (i : Int))).bind _ = _
 simp only [lM]
 rw [if_pos (by omega)]
 simp
def KN (p : List Stp) (x : Value) (b o : Nat) : Prop := ∀ {R : Type} (k : Value → Option R), ad p x k = k (qY b o)
theorem cg : KN [] (qY b o) b o := fun _ => rfl
theorem gS {p : List Stp} {b' o' : Nat} (h : KN p (qY b o) b' o') : KN (.n :: p) (qY b o) b' o' := fun k => h k
theorem ch {p : List Stp} {b' o' : Nat} (h : KN p (qY b (o + f)) b' o') : KN (.f f :: p) (qY b o) b' o' := fun k => h k
theorem K8 {p : List Stp} {b' o' i c : Nat} {kk : IntKind} (hi : i < n) (h : KN p (qY b (o + i * e)) b' o') : KN (.i e (.int kk (i : Int)) :: p) (.slice (some ⟨b, o, none⟩) n c) b' o' := fun k => by rw [Rn hi]; exact h k
theorem ac : KN [.n, .f f] (vp b) b f := fun k => by
 show k (qY b (0 + f)) = _
 rw [Nat.zero_add]
theorem ak : KN [.f f] (vp b) b f := fun k => by
 show k (qY b (0 + f)) = _
 rw [Nat.zero_add]
class Ri (l : List Value) (o : Nat) (v : Value) (l' : outParam (List Value)) : Prop where
 eq : o < l.length ∧ l' = l.set o v
instance Ri.zero (a : Value) (l : List Value) (v : Value) : Ri (a :: l) 0 v (v :: l) := ⟨by simp⟩
instance Ri.succ (a : Value) (l : List Value) (o : Nat) (v : Value) (l' : List Value) [h : Ri l o v l'] : Ri (a :: l) (o + 1) v (a :: l') := ⟨by
 obtain ⟨h1, rfl⟩ := h.eq
 exact ⟨by simp; exact h1, by simp⟩⟩
class uS (l : List Value) (o : Nat) (xs : List Value) (l' : outParam (List Value)) : Prop where
 eq : o + xs.length ≤ l.length ∧ l' = splice l o xs
instance uS.here0 (l : List Value) : uS l 0 [] l := ⟨by simp [splice]⟩
instance uS.here (a x : Value) (l xs l' : List Value) [h : uS l 0 xs l'] : uS (a :: l) 0 (x :: xs) (x :: l') := ⟨by
 obtain ⟨h1, rfl⟩ := h.eq
 refine ⟨by simp at h1 ⊢; exact h1, by simp [splice]⟩⟩
instance uS.on (a : Value) (l : List Value) (o : Nat) (x : Value) (xs l' : List Value) [h : uS l o (x :: xs) l'] : uS (a :: l) (o + 1) (x :: xs) (a :: l') := ⟨by
 obtain ⟨h1, rfl⟩ := h.eq
 refine ⟨by simp at h1 ⊢; omega, ?_⟩
 simp only [splice, List.take_succ_cons, List.cons_append, List.cons.injEq, true_and]
 congr 1
 rw [show o + 1 + (x :: xs).length = (o + (x :: xs).length) + 1 from by omega, List.drop_succ_cons]⟩
class zK (l : List Value) (o n : Nat) (l' : outParam (List Value)) : Prop where
 eq : o + n ≤ l.length ∧ l' = (l.drop o).take n
instance zK.nil (l : List Value) : zK l 0 0 [] := ⟨by simp⟩
instance zK.here (a : Value) (l : List Value) (n : Nat) (l' : List Value) [h : zK l 0 n l'] : zK (a :: l) 0 (n + 1) (a :: l') := ⟨by
 obtain ⟨h1, rfl⟩ := h.eq
 exact ⟨by simp at h1 ⊢; exact h1, by simp⟩⟩
instance zK.on (a : Value) (l : List Value) (o n : Nat) (l' : List Value) [h : zK l o (n + 1) l'] : zK (a :: l) (o + 1) (n + 1) l' := ⟨by
 obtain ⟨h1, rfl⟩ := h.eq
 exact ⟨by simp at h1 ⊢; omega, by simp⟩⟩
class tg (v : Value) (l : outParam (List Value)) : Prop where
 eq : v.cells.toList = l
instance tg.int (k : IntKind) (n : Int) : tg (.int k n) [.int k n] := ⟨rfl⟩
instance tg.bool (b : Bool) : tg (.bool b) [.bool b] := ⟨rfl⟩
instance tg.slice (a : Option Addr) (n c : Nat) : tg (.slice a n c) [.slice a n c] := ⟨rfl⟩
instance tg.ptr (a : Option Addr) : tg (.pointer a) [.pointer a] := ⟨rfl⟩
instance tg.func (f : Fn) (a b : Array Value) : tg (.func f a b) [.func f a b] := ⟨rfl⟩
instance tg.nilFunc : tg .nilFunc [.nilFunc] := ⟨rfl⟩
instance tg.map (m : Option Nat) : tg (.map m) [.map m] := ⟨rfl⟩
instance tg.string (s : ByteArray) : tg (.string s) [.string s] := ⟨rfl⟩
instance tg.agg (l : List Value) : tg (.agg l.toArray) l := ⟨by simp [Value.cells]⟩
class NK (ps : List (Nat × Nat)) (i : Nat) (o n : outParam Nat) : Prop where
 eq : ps[i]? = some (o, n)
instance NK.zero (p : Nat × Nat) (ps : List (Nat × Nat)) : NK (p :: ps) 0 p.1 p.2 := ⟨rfl⟩
instance NK.succ (p : Nat × Nat) (ps : List (Nat × Nat)) (i o n : Nat) [h : NK ps i o n] : NK (p :: ps) (i + 1) o n := ⟨by simpa using h.eq⟩
class He (l : List Value) (n : Nat) : Prop where
 eq : l.length = n
instance He.nil : He [] 0 := ⟨rfl⟩
instance He.cons (a : Value) (l : List Value) (n : Nat) [h : He l n] : He (a :: l) (n + 1) := ⟨by simp [h.eq]⟩
class NJ (ps : List (Nat × Nat)) (zero : List Value) (xs : List (Nat × Value)) (cs : outParam (List Value)) : Prop where
 eq : cu (fun i => ps[i]?) zero xs = some cs
instance NJ.nil (ps : List (Nat × Nat)) (zero : List Value) : NJ ps zero [] zero := ⟨rfl⟩
instance NJ.cons (ps : List (Nat × Nat)) (zero z l cs : List Value) (i o n : Nat) (v : Value) (xs : List (Nat × Value)) [h1 : NK ps i o n] [h2 : tg v l] [h3 : He l n] [h4 : uS zero o l z] [h5 : NJ ps z xs cs] : NJ ps zero ((i, v) :: xs) cs := ⟨by
 obtain ⟨h6, rfl⟩ := h4.eq
 have h7 := h2.eq
 have h8 := h3.eq
 subst h7
 simp only [cu, h1.eq, Option.bind_some]
 rw [if_pos ⟨by simpa using h8, by rw [← h8]; exact h6⟩]
 exact h5.eq⟩
class Zi (e : Nat) (zero : List Value) (xs : List (Nat × Value)) (cs : outParam (List Value)) : Prop where
 eq : cu (XS e) (List.replicate 1 zero).flatten xs = some cs
instance Zi.one (e : Nat) (zero l z : List Value) (v : Value) [h2 : tg v l] [h3 : He l e] [h4 : uS zero 0 l z] : Zi e zero [(0, v)] z := ⟨by
 obtain ⟨h6, rfl⟩ := h4.eq
 have h7 := h2.eq
 have h8 := h3.eq
 subst h7
 have hz : (List.replicate 1 zero).flatten = zero := by simp
 rw [hz]
 simp only [cu, XS, Option.bind_some, Nat.zero_mul]
 rw [if_pos ⟨by simpa using h8, by rw [← h8]; exact h6⟩]⟩
theorem aJ {p : List Stp} {k : Value → OV} (hp : KN p x b o) (hk : wp (k (qY b o)) Q) : wp (ad p x k) Q := by rw [hp k]; exact hk
theorem am {p : List Stp} {k : Value → OV} (h : ae P H) (hp : KN p x b o) [i : Hs P b (.cells ro cs)] (hv : cs[o]? = some v) (hk : wp (k v) Q) : wp (ld p x H k) Q := by
 unfold ld
 rw [hp, I6 h hv]
 exact hk
theorem a7 {l : List Value} {p : List Stp} {k : Value → OV} (h : ae P H) (hp : KN p x b o) [i : Hs P b (.cells ro cs)] [s : zK cs o n l] (hk : wp (k (.agg l.toArray)) Q) : wp (ldN n p x H k) Q := by
 obtain ⟨hn, rfl⟩ := s.eq
 unfold ldN
 rw [hp, I7 h hn]
 exact hk
theorem aL {cs' l : List Value} {p : List Stp} {k : AH → OV} (h : ae P H) (hp : KN p x b o) [i : Hs P b (.cells false cs)] [c : tg v l] [s : uS cs o l cs'] (hx : l.length = n) (hc : l.all Value.oneCell' = true)
 [u : Up P b (.cells false cs') P'] (hk : ∀ H', ae P' H' → wp (k H') Q) : wp (st n p x v H k) Q := by
 obtain ⟨hn, rfl⟩ := s.eq
 have hl := c.eq
 subst hl
 unfold st
 rw [hp, V6 h (by simpa using hx) (by simp at hx hn; omega) hc]
 exact hk _ (u.set h)
theorem aE {k : Value → OV} (h : ae P H) [i : Hs P b (.cells ro cs)] (hv : cs[o]? = some v) (hk : wp (k v) Q) : wp ((ar (qY b o) H).bind k) Q := aa (I6 h hv) hk
theorem aM {l : List Value} {k : Value → OV} (h : ae P H) [i : Hs P b (.cells ro cs)] [s : zK cs o n l] (hk : wp (k (.agg l.toArray)) Q) : wp ((aA n (qY b o) H).bind k) Q := by
 obtain ⟨hn, rfl⟩ := s.eq
 exact aa (I7 h hn) hk
theorem bZ {cs' l : List Value} {k : AH → OV} (h : ae P H) [i : Hs P b (.cells false cs)] [c : tg v l] [s : uS cs o l cs'] (hx : l.length = n) (hc : l.all Value.oneCell' = true)
 [u : Up P b (.cells false cs') P'] (hk : ∀ H', ae P' H' → wp (k H') Q) : wp ((cW n (qY b o) v H).bind k) Q := by
 obtain ⟨hn, rfl⟩ := s.eq
 have hl := c.eq
 subst hl
 rw [V6 h (by simpa using hx) (by simp at hx hn; omega) hc]
 exact hk _ (u.set h)
theorem aH {l : List Value} {k : Value → AH → OV} (h : ae P H) [c : tg x l] (hk : ∀ b H', ae (blk b (.cells false l) * P) H' → wp (k (vp b) H') Q) : wp (aY (Value.cells x).toList H k) Q := by
 rw [c.eq]; exact aO h hk
theorem dZ {ps : List (Nat × Nat)} {zero : List Value} {xs : List (Nat × Value)} {k : Value → OV} [f : NJ ps zero xs cs] (hk : wp (k (.agg cs.toArray)) Q) : wp (gk ps zero xs k) Q := G0 f.eq hk
theorem j8 {zero : List Value} {xs : List (Nat × Value)} {k : Value → AH → OV} (h : ae P H) [f : Zi e zero xs cs] (hk : ∀ b H', ae (blk b (.cells false cs) * P) H' → wp (k (vs b 1 e) H') Q) : wp (zY 1 e zero xs H k) Q := NC h f.eq hk
theorem aD {P2 : SP} {H2 : AH} {ro2 : Bool} {cs2 : List Value} {k : OV} (h : ae P H) (h2 : ae P2 H2) [i : Hs P b (.cells ro cs)] [i2 : Hs P2 b (.cells ro2 cs2)] (e : cs[o]? = cs2[o]?) (hk : wp k Q) :
 wp (bE (ar (qY b o) H) (ar (qY b o) H2) k) Q := by
 refine BD ?_ hk
 simp only [ar, qX, dn, Option.bind_some, i.get h, i2.get h2]
 exact e
theorem bn {P2 : SP} {H2 : AH} {ro2 : Bool} {cs2 : List Value} {k : OV} (h : ae P H) (h2 : ae P2 H2) [i : Hs P b (.cells ro cs)] [i2 : Hs P2 b (.cells ro2 cs2)] (e : cs = cs2) (hk : wp k Q) :
 wp (bE (aA n (qY b o) H) (aA n (qY b o) H2) k) Q := by
 refine BD ?_ hk
 simp only [aA, qX, dn, Option.bind_some, i.get h, i2.get h2, e]
def Sp {α : Type} (f : Nat) (args : List Value) (P : SP) (v : α → Value) (Q : α → SP) : Prop := ∀ R H, ae (P * R) H → ∃ x H', FF f args H = some (v x, H') ∧ ae (Q x * R) H'
theorem av {α : Type} {f : Nat} {args : List Value} {P : SP} {v : α → Value} {Q : α → SP} (h : ∀ R H, ae (P * R) H → wp (FF f args H) fun v' H' => ∃ x, v' = v x ∧ ae (Q x * R) H') : Sp f args P v Q := by
 intro R H hh
 obtain ⟨v', H', e, x, rfl, hq⟩ := h R H hh
 exact ⟨x, H', e, hq⟩
theorem af {α : Type} {f : Nat} {args : List Value} {P0 : SP} {v : α → Value} {Q0 : α → SP} {k : Value × AH → OV} (h : ae P H) (s : Sp f args P0 v Q0) [fr : Fr P P0 R] (hk : ∀ x H', ae (Q0 x * R) H' → wp (k (v x, H')) Q) : wp ((FF f args H).bind k) Q := by
 obtain ⟨x, H', e, h'⟩ := s R H h.fr
 rw [e]
 exact hk x H' h'
end
end Go.Proofs.YtodpbobjmkhcfaaGreatDoor.Gst
