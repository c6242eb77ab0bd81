/- Several texts in one. -/
import Derived.Test.YtflbeghglllknaaGreatDoorOa
namespace Go.Proofs.YtflbeghglllknaaGreatDoor.Gst
open Go Go.RowKit
set_option linter.unusedSimpArgs false
def tQ (ops : List Oper) : Bool :=
 let ms := cp ops
 ops.zipIdx.all (fun p => p.1.after.toList.all fun e => !Region.binds .any e || decide (e.on < p.2)) &&
 ops.zipIdx.all fun q => (ops.zipIdx.take q.2).all fun p => fb ms p.2 q.2 || (p.1.apart ops.toArray q.1 && !(kY p.1.op == 3 && kY q.1.op == 3))
def d5 (ops : List Oper) : List (Nat × Nat) :=
 let ms := cp ops
 (ops.zipIdx.filter fun p => kY p.1.op == 2).flatMap fun p => ((ops.zipIdx.filter fun q => kY q.1.op == 3 && !fb ms q.2 p.2 && !fb ms p.2 q.2).map fun q => (p.2, q.2))
def jS (P : Program) (G : List Nat) (call : bK) (ops : Array Oper) (A : List Value) (H : AH) (i : Nat) : List Value × AH := (dm P G call ops (ops.toList.take i) A H).getD (A, H)
def jZ (P : Program) (s : Nat → List Value × AH) (ops : Array Oper) (p : Nat × Nat) : Prop :=
 ∀ o, ops[p.1]? = some o → BY P (fR (s p.1).1) o.op (s (if p.2 < p.1 then p.2 else p.2 + 1)).2 = BY P (fR (s p.1).1) o.op (s p.1).2
open Classical in
noncomputable def Lt {α : Type} (p : Prop) (x : Option α) : Option α := if p then x else none
theorem ol {α : Type} {p : Prop} {x : Option α} {r : α} (h : Lt p x = some r) : p ∧ x = some r := by
 unfold Lt at h
 split at h
 ·exact ⟨by assumption, h⟩
 ·cases h
theorem kH {α : Type} {p : Prop} (h : p) (x : Option α) : Lt p x = x := by unfold Lt; rw [if_pos h]
noncomputable def mW (P : Program) (G : List Nat) (call : bK) (ops : Array Oper) (A : List Value) (H : AH) : Option (List Value × AH) :=
 match tQ ops.toList with
 | false => none
 | true => match d5 ops.toList with
  | [] => dm P G call ops ops.toList A H
  | p :: ps => Lt (∀ q ∈ p :: ps, jZ P (jS P G call ops A H) ops q) (dm P G call ops ops.toList A H)
theorem gF {P : Program} {G : List Nat} {call : bK} {ops : Array Oper} {A : List Value} {H : AH} {r : List Value × AH} (h : mW P G call ops A H = some r) :
 tQ ops.toList = true ∧ (∀ p ∈ d5 ops.toList, jZ P (jS P G call ops A H) ops p) ∧ dm P G call ops ops.toList A H = some r := by
 unfold mW at h
 cases h1 : tQ ops.toList with
 | false => rw [h1] at h; cases h
 | true =>
  rw [h1] at h;refine ⟨rfl, ?_⟩
  cases h2 : d5 ops.toList with
  | nil => rw [h2] at h; exact ⟨fun p hp => (by cases hp), h⟩
  | cons p ps =>
   rw [h2] at h;exact ol h
section
variable {P : Program} {w0 : World} {B : Nat} {ρ : bR} {H : AH} {w : World} {G : List Nat} {call : bK} {ops : Array Oper}
theorem zc (l1 l2 : List Oper) (A : List Value) (H : AH) : dm P G call ops (l1 ++ l2) A H = (dm P G call ops l1 A H).bind fun s => dm P G call ops l2 s.1 s.2 := by
 induction l1 generalizing A H with
 | nil => rfl
 | cons o l ih =>
  simp only [List.cons_append, dm];rw [Option.bind_assoc]
  congr 1
  funext s
  exact ih s.1 s.2
theorem xn {A : List Value} {r : List Value × AH} (h : dm P G call ops ops.toList A H = some r) (i : Nat) : dm P G call ops (ops.toList.take i) A H = some (jS P G call ops A H i) := by
 unfold jS;have e : ops.toList = ops.toList.take i ++ ops.toList.drop i := (List.take_append_drop ..).symm;rw [e, zc] at h;obtain ⟨s, hs, _⟩ := aI.1 h;rw [hs]; rfl
theorem ahX (A : List Value) : jS P G call ops A H 0 = (A, H) := rfl
theorem al2 {A : List Value} {r : List Value × AH} (h : dm P G call ops ops.toList A H = some r) : jS P G call ops A H ops.size = r := by
 unfold jS;rw [show ops.size = ops.toList.length by simp, List.take_length, h]
 rfl
theorem NG {A : List Value} {r : List Value × AH} (h : dm P G call ops ops.toList A H = some r) {i : Nat} {o : Oper} (ho : ops[i]? = some o) :
 gG P G call ops o (jS P G call ops A H i).1 (jS P G call ops A H i).2 = some (jS P G call ops A H (i + 1)) := by
 have ho' : ops.toList[i]? = some o := by simpa using ho
 have h1 := xn h (i + 1);rw [List.take_add_one, ho', Option.toList_some, zc, xn h i] at h1;simp only [bP, dm] at h1;obtain ⟨s, hs, e⟩ := aI.1 h1;rw [hs];exact e
noncomputable def aq6 (P : Program) (G : List Nat) (call : bK) (ops : Array Oper) (A : List Value) (H : AH) (i : Nat) : Value :=
 match ops[i]? with
 | some o => if Region.wanted o (dO ops (jS P G call ops A H i).1) = true then ((fe P call (fR (jS P G call ops A H i).1) o (jS P G call ops A H i).2).map (·.1)).getD undef else undef
 | none => undef
theorem QK (h : tQ ops.toList = true) : ∀ j o, ops[j]? = some o → ∀ e ∈ o.after, Region.binds .any e = true → e.on < j := by
 intro j o ho e he hb;unfold tQ at h;simp only [Bool.and_eq_true, List.all_eq_true] at h
 have ho' : ops.toList[j]? = some o := by simpa using ho
 have hm : (o, j) ∈ ops.toList.zipIdx := by
  rw [List.mem_iff_getElem?];exact ⟨j, by rw [List.getElem?_zipIdx, ho']; simp⟩
 have := h.1 (o, j) hm e (by simpa using he)
 simpa [hb] using this
theorem QL (h : tQ ops.toList = true) : ∀ i j oi oj, i < j → ops[i]? = some oi → ops[j]? = some oj → fb (cp ops.toList) i j = true ∨ (oi.apart ops oj = true ∧ ¬ (kY oi.op = 3 ∧ kY oj.op = 3)) := by
 intro i j oi oj hij hi hj;unfold tQ at h;simp only [Bool.and_eq_true, List.all_eq_true] at h
 have hi' : ops.toList[i]? = some oi := by simpa using hi
 have hj' : ops.toList[j]? = some oj := by simpa using hj
 have hm : (oj, j) ∈ ops.toList.zipIdx := by
  rw [List.mem_iff_getElem?];exact ⟨j, by rw [List.getElem?_zipIdx, hj']; simp⟩
 have hm2 : (oi, i) ∈ ops.toList.zipIdx.take j := by
  rw [List.mem_iff_getElem?];exact ⟨i, by rw [List.getElem?_take, if_pos hij, List.getElem?_zipIdx, hi']; simp⟩
 have := h.2 (oj, j) hm (oi, i) hm2;simp only [Bool.or_eq_true, Bool.and_eq_true, Bool.not_eq_true', Bool.and_eq_false_iff, beq_eq_false_iff_ne, Array.toArray_toList] at this
 rcases this with h1 | ⟨h1, h2⟩
 ·exact .inl h1
 ·exact .inr ⟨h1, fun h3 => by rcases h2 with h2 | h2; exact h2 h3.1; exact h2 h3.2⟩
theorem FV {j e : Nat} {oj oe : Oper} (hj : ops[j]? = some oj) (he : ops[e]? = some oe) (h2 : kY oj.op = 2) (h3 : kY oe.op = 3) (hf1 : fb (cp ops.toList) e j = false) (hf2 : fb (cp ops.toList) j e = false) : (j, e) ∈ d5 ops.toList := by
 have hj' : ops.toList[j]? = some oj := by simpa using hj
 have he' : ops.toList[e]? = some oe := by simpa using he
 unfold d5;simp only [List.mem_flatMap, List.mem_filter, List.mem_map];refine ⟨(oj, j), ⟨?_, by simp [h2]⟩, (oe, e), ⟨?_, by simp [h3, hf1, hf2]⟩, rfl⟩
 ·rw [List.mem_iff_getElem?]; exact ⟨j, by rw [List.getElem?_zipIdx, hj']; simp⟩
 ·rw [List.mem_iff_getElem?]; exact ⟨e, by rw [List.getElem?_zipIdx, he']; simp⟩
noncomputable def anH {A : List Value} {r : List Value × AH} (h : mW P G call ops A H = some r) : Tra P G call ops where
 s := jS P G call ops A H
 val := aq6 P G call ops A H
 step := fun i o ho => by
  obtain ⟨_, _, hr⟩ := gF h;have hs := NG hr ho;unfold gG at hs
  split at hs
  ·rename_i hok
   refine ⟨hok, ?_⟩;unfold aq6;rw [ho];simp only
   split at hs
   ·rename_i hw
    obtain ⟨⟨v, H2⟩, hv, e⟩ := bi.1 hs;rw [if_pos hw, hv, ← e];exact ⟨rfl, .inl ⟨hw, rfl⟩⟩
   ·rename_i hw
    rw [if_neg hw];have e := (iu hs).symm;rw [e];exact ⟨rfl, .inr ⟨by simpa using hw, rfl, rfl⟩⟩
  ·cases hs
 back := QK (gF h).1
 pair := QL (gF h).1
 look := fun j e oj oe hj he h2 h3 hf1 hf2 => (gF h).2.1 (j, e) (FV hj he h2 h3 hf1 hf2) oj hj
theorem OA (hcall : mh P G call) (hmono : ix call) (hm : P.follows .mixedOrders = true) {id : Nat} {Q : Exit → Act → World → Prop} {A : List Value} {a : Act} {A' : List Value} {H' : AH} (h : mW P G call ops A H = some (A', H'))
 (hA : cD P ρ A a) (hG : GlobRel ρ G) (hR : Rel P w0 B ρ H w) (hQ : ∀ a' w', BQ P w0 B G ρ H w A' H' a' w' → Q .normal a' w') : (Code.region id ops true).wp P Q a w := by
 have W : Way (anH h) w0 B ρ w.drew := ⟨hcall, hmono, hG, hR.drew, ⟨a, hA⟩⟩;refine QP W hm (w := w) rfl hA (fun a' w' hp => hQ a' w' ?_);obtain ⟨ρ', h1, h2, h3, h4⟩ := hp;have e : (anH h).s ops.size = (A', H') := al2 (gF h).2.2;rw [e] at h1 h3 h4;exact ⟨ρ', h1, h2, jc.of_drew h3, h4⟩
end
inductive AE where
 | normal
 | exit (id : Nat)
 | ret
deriving DecidableEq
abbrev AR := AE × List Value × AH
def fv (f : List Value → AH → Option AR) : Nat → List Value → AH → Option AR
 | 0, _, _ => none
 | n + 1, A, H => (f A H).bind fun r => match r.1 with
  | .normal => fv f n r.2.1 r.2.2
  | _ => some r
theorem BV {f : List Value → AH → Option AR} {n : Nat} {A : List Value} {H : AH} {r : AR} (h : fv f n A H = some r) : ∀ m, n ≤ m → fv f m A H = some r := by
 induction n generalizing A H with
 | zero => cases h
 | succ n ih =>
  intro m hm;obtain ⟨m, rfl⟩ : ∃ k, m = k + 1 := ⟨m - 1, by omega⟩;simp only [fv] at h ⊢;obtain ⟨s, hs, h⟩ := aI.1 h;rw [hs];simp only [bP]
  split at h
  ·exact ih h m (by omega)
  ·exact h
open Classical in
noncomputable def pW (f : List Value → AH → Option AR) (A : List Value) (H : AH) : Option AR := if h : ∃ n r, fv f n A H = some r then some h.choose_spec.choose else none
theorem dl {f : List Value → AH → Option AR} {A : List Value} {H : AH} {r : AR} : pW f A H = some r ↔ ∃ n, fv f n A H = some r := by
 unfold pW
 constructor
 ·intro h
  split at h
  ·rename_i hx
   cases h;exact ⟨_, hx.choose_spec.choose_spec⟩
  ·cases h
 ·rintro ⟨n, hn⟩
  have hx : ∃ n r, fv f n A H = some r := ⟨n, r, hn⟩;rw [dif_pos hx];have h1 := BV hx.choose_spec.choose_spec (max n hx.choose) (Nat.le_max_right ..);have h2 := BV hn (max n hx.choose) (Nat.le_max_left ..);rw [h2] at h1;exact h1.symm
theorem ZX (f : List Value → AH → Option AR) (A : List Value) (H : AH) : pW f A H = (f A H).bind fun r => match r.1 with | .normal => pW f r.2.1 r.2.2 | _ => some r := by
 apply Option.ext;intro r;rw [dl]
 constructor
 ·rintro ⟨n, hn⟩
  cases n with
  | zero => cases hn
  | succ n =>
   simp only [fv] at hn;obtain ⟨s, hs, h⟩ := aI.1 hn;rw [hs];simp only [bP]
   split at h
   ·exact dl.2 ⟨n, h⟩
   ·exact h
 ·intro h
  obtain ⟨s, hs, h⟩ := aI.1 h
  split at h
  ·rename_i e
   obtain ⟨n, hn⟩ := dl.1 h;refine ⟨n + 1, ?_⟩;simp only [fv, hs, bP, e];exact hn
  ·rename_i e
   refine ⟨1, ?_⟩;simp only [fv, hs, bP];exact h
noncomputable def gn (P : Program) (G : List Nat) (call : bK) (ops : Array Oper) (draw : Bool) (A : List Value) (H : AH) : Option (List Value × AH) :=
 match draw with
 | true => mW P G call ops A H
 | false => dm P G call ops ops.toList A H
noncomputable def aZ (P : Program) (G : List Nat) (call : bK) : Code → List Value → AH → Option AR
 | .skip, A, H => some (.normal, A, H)
 | .label _, A, H => some (.normal, A, H)
 | .region _ ops draw, A, H => (gn P G call ops draw A H).map fun s => (.normal, s.1, s.2)
 | .seq x y, A, H => (aZ P G call x A H).bind fun r => match r.1 with
  | .normal => aZ P G call y r.2.1 r.2.2
  | _ => some r
 | .cond c x y, A, H => match fR A c with
  | .bool true => aZ P G call x A H
  | .bool false => aZ P G call y A H
  | _ => none
 | .block id x, A, H => (aZ P G call x A H).map fun r => match r.1 with
  | .exit i => if i = id then (.normal, r.2.1, r.2.2) else r
  | _ => r
 | .loop x, A, H => pW (aZ P G call x) A H
 | .exit id, A, H => some (.exit id, A, H)
 | .ret, A, H => some (.ret, A, H)
 | _, _, _ => none
def AE.to : AE → Exit
 | .normal => .normal
 | .exit id => .exit id
 | .ret => .ret
section
variable {P : Program} {w0 : World} {B : Nat} {G : List Nat} {call : bK}
theorem BQ.trans {ρ ρ1 : bR} {H H1 H2 : AH} {w w1 w2 : World} {A2 : List Value} {a2 : Act} (hR : Rel P w0 B ρ H w) (hE : jc ρ H w ρ1 H1 w1) (h : BQ P w0 B G ρ1 H1 w1 A2 H2 a2 w2) : BQ P w0 B G ρ H w A2 H2 a2 w2 := by
 obtain ⟨ρ', h1, h2, h3, h4⟩ := h;exact ⟨ρ', h1, h2, hE.trans hR h3, h4⟩
theorem Cm (hcall : mh P G call) (hmono : ix call) (hm : P.follows .mixedOrders = true) : ∀ (c : Code) {Q : Exit → Act → World → Prop} {ρ : bR} {A : List Value} {H : AH} {a : Act} {w : World} {e : AE} {A' : List Value} {H' : AH},
 aZ P G call c A H = some (e, A', H') → cD P ρ A a → GlobRel ρ G → Rel P w0 B ρ H w → (∀ a' w', BQ P w0 B G ρ H w A' H' a' w' → Q e.to a' w') → c.wp P Q a w := by
 intro c
 induction c with
 | skip =>
  intro Q ρ A H a w e A' H' h hA hG hR hQ;simp only [aZ] at h; cases h;exact wp_skip (hQ a w ⟨ρ, hA, hG, jc.refl _ _ _, hR⟩)
 | label l =>
  intro Q ρ A H a w e A' H' h hA hG hR hQ;simp only [aZ] at h; cases h;exact wp_label (hQ a w ⟨ρ, hA, hG, jc.refl _ _ _, hR⟩)
 | exit id =>
  intro Q ρ A H a w e A' H' h hA hG hR hQ;simp only [aZ] at h; cases h;exact wp_exit (hQ a w ⟨ρ, hA, hG, jc.refl _ _ _, hR⟩)
 | ret =>
  intro Q ρ A H a w e A' H' h hA hG hR hQ;simp only [aZ] at h; cases h;exact wp_ret (hQ a w ⟨ρ, hA, hG, jc.refl _ _ _, hR⟩)
 | region id ops draw =>
  intro Q ρ A H a w e A' H' h hA hG hR hQ;simp only [aZ] at h;obtain ⟨⟨A1, H1⟩, hs, e1⟩ := bi.1 h;cases e1
  cases draw with
  | true => exact OA hcall hmono hm hs hA hG hR hQ
  | false => exact Nl hcall hs hA hG hR hQ
 | seq x y ihx ihy =>
  intro Q ρ A H a w e A' H' h hA hG hR hQ;simp only [aZ] at h;obtain ⟨⟨e1, A1, H1⟩, hx, h⟩ := aI.1 h;refine wp_seq (ihx hx hA hG hR (fun a1 w1 hp => ?_))
  cases e1 with
  | normal =>
   simp only at h;obtain ⟨ρ1, hA1, hG1, hE1, hR1⟩ := hp;exact ihy h hA1 hG1 hR1 (fun a' w' hp => hQ a' w' (hp.trans hR hE1))
  | exit id => simp only at h; cases h; exact hQ a1 w1 hp
  | ret => simp only at h; cases h; exact hQ a1 w1 hp
 | cond c x y ihx ihy =>
  intro Q ρ A H a w e A' H' h hA hG hR hQ;simp only [aZ] at h
  have hc : ∀ t, fR A c = .bool t → a.eval c = .bool t := by
   intro t ht
   cases c with
   | tmp u =>
    simp only [fR] at ht
    cases hx : A[u]? with
    | none => rw [hx] at ht; simp [undef] at ht
    | some x =>
     rw [hx] at ht;simp only [Option.getD_some] at ht;subst ht;obtain ⟨y, hy, hv⟩ := hA.tmps.get hx;rw [Array.getElem?_toList] at hy;simp only [Act.eval, Array.getD_eq_getD_getElem?, hy, Option.getD_some];exact hv.bool_inv
   | const v => exact ht
   | global g => cases ht
   | func f => cases ht
  split at h
  ·rename_i ht; exact wp_cond (hc _ ht) (ihx h hA hG hR hQ)
  ·rename_i ht; exact wp_cond (hc _ ht) (ihy h hA hG hR hQ)
  ·cases h
 | block id x ih =>
  intro Q ρ A H a w e A' H' h hA hG hR hQ;simp only [aZ] at h;obtain ⟨⟨e1, A1, H1⟩, hx, e2⟩ := bi.1 h;refine wp_block (ih hx hA hG hR (fun a1 w1 hp => ?_))
  cases e1 with
  | normal => simp only at e2; cases e2; exact hQ a1 w1 hp
  | ret => simp only at e2; cases e2; exact hQ a1 w1 hp
  | exit i =>
   simp only at e2;simp only [AE.to, Exit.inBlock]
   split at e2
   ·rename_i hi; cases e2; rw [if_pos hi]; exact hQ a1 w1 hp
   ·rename_i hi; cases e2; rw [if_neg hi]; exact hQ a1 w1 hp
 | loop x ih =>
  intro Q ρ A H a w e A' H' h hA hG hR hQ;simp only [aZ] at h;obtain ⟨n, hn⟩ := dl.1 h;refine wp_loop_rounds n ?_
  clear h
  induction n generalizing ρ A H a w with
  | zero => cases hn
  | succ n ihn =>
   simp only [fv] at hn;obtain ⟨⟨e1, A1, H1⟩, hx, h⟩ := aI.1 hn;rw [rounds_succ];refine ih hx hA hG hR (fun a1 w1 hp => ?_)
   cases e1 with
   | normal =>
    simp only at h;obtain ⟨ρ1, hA1, hG1, hE1, hR1⟩ := hp;exact ihn hA1 hG1 hR1 (fun a' w' hp => hQ a' w' (hp.trans hR hE1)) h
   | exit id => simp only at h; cases h; exact hQ a1 w1 hp
   | ret => simp only at h; cases h; exact hQ a1 w1 hp
 | rangeFunc f ps x y => intro Q ρ A H a w e A' H' h; simp [aZ] at h
 | scope x => intro Q ρ A H a w e A' H' h; simp [aZ] at h
 | goto l => intro Q ρ A H a w e A' H' h; simp [aZ] at h
 | refuse s => intro Q ρ A H a w e A' H' h; simp [aZ] at h
theorem sA (hm : ix call) {ops : Array Oper} : ∀ (l : List Oper) {A : List Value} {H : AH} {r : List Value × AH}, dm P G call ops l A H = some r → H.size ≤ r.2.size := by
 intro l
 induction l with
 | nil => intro A H r h; simp only [dm] at h; cases h; exact bB _
 | cons o l ih =>
  intro A H r h;simp only [dm] at h;obtain ⟨s, hs, h⟩ := aI.1 h;refine fT ?_ (ih h);unfold gG at hs
  split at hs
  ·split at hs
   ·obtain ⟨⟨v, H2⟩, hv, e⟩ := bi.1 hs
    cases e; exact K7 hm hv
   ·cases hs; exact bB _
  ·cases hs
theorem BT (hm : ix call) : ∀ (c : Code) {A : List Value} {H : AH} {r : AR}, aZ P G call c A H = some r → H.size ≤ r.2.2.size := by
 intro c
 induction c with
 | skip => intro A H r h; simp only [aZ] at h; cases h; exact bB _
 | label l => intro A H r h; simp only [aZ] at h; cases h; exact bB _
 | exit id => intro A H r h; simp only [aZ] at h; cases h; exact bB _
 | ret => intro A H r h; simp only [aZ] at h; cases h; exact bB _
 | region id ops draw =>
  intro A H r h;simp only [aZ] at h;obtain ⟨s, hs, e1⟩ := bi.1 h;cases e1
  cases draw with
  | true => exact sA hm _ (gF hs).2.2
  | false => exact sA hm _ hs
 | seq x y ihx ihy =>
  intro A H r h;simp only [aZ] at h;obtain ⟨s, hx, h⟩ := aI.1 h;have h1 := ihx hx
  split at h
  ·exact fT h1 (ihy h)
  ·cases h; exact h1
 | cond c x y ihx ihy =>
  intro A H r h;simp only [aZ] at h
  split at h
  ·exact ihx h
  ·exact ihy h
  ·cases h
 | block id x ih =>
  intro A H r h;simp only [aZ] at h;obtain ⟨s, hx, e2⟩ := bi.1 h;have h1 := ih hx
  split at e2
  ·split at e2 <;> (subst e2; exact h1)
  ·subst e2; exact h1
 | loop x ih =>
  intro A H r h;simp only [aZ] at h;obtain ⟨n, hn⟩ := dl.1 h
  clear h
  induction n generalizing A H with
  | zero => cases hn
  | succ n ihn =>
   simp only [fv] at hn;obtain ⟨s, hx, h⟩ := aI.1 hn;have h1 := ih hx
   split at h
   ·exact fT h1 (ihn h)
   ·cases h; exact h1
 | rangeFunc f ps x y => intro A H r h; simp [aZ] at h
 | scope x => intro A H r h; simp [aZ] at h
 | goto l => intro A H r h; simp [aZ] at h
 | refuse s => intro A H r h; simp [aZ] at h
end
def lF (P : Program) (A : List Value) (H : AH) : ResultVar → Option Value
 | .tmp t => some (A[t]?.getD undef)
 | .cell a t => (fP P t).bind fun g => match g with
  | some n => aA n (A[a]?.getD undef) H
  | none => au (A[a]?.getD undef) H
def tw (P : Program) (A : List Value) (H : AH) : List ResultVar → Option (List Value)
 | [] => some []
 | r :: rs => (lF P A H r).bind fun v => (tw P A H rs).bind fun vs => some (v :: vs)
def jf (P : Program) (A : List Value) (H : AH) (rs : List ResultVar) : Option Value := (tw P A H rs).map fun vs => match vs with
 | [v] => v
 | vs => .tuple vs.toArray
def ZW (P : Program) (rs : List ResultVar) (r : AR) : Option (Value × AH) :=
 match r.1 with
 | .exit _ => none
 | _ => (jf P r.2.1 r.2.2 rs).map (·, r.2.2)
noncomputable def pV (P : Program) (G : List Nat) (call : bK) (n : Nat) (rs : List ResultVar) (c : Code) (args : List Value) (H : AH) : Option (Value × AH) :=
 (aZ P G call c (args ++ List.replicate (n - args.length) undef) H).bind (ZW P rs)
structure DSh where
 c1 : Code
 id2 : Nat
 ops2 : Array Oper
 om : Oper
 df : Oper
 t : Nat
 k : Nat
 id3 : Nat
 ops3 : Array Oper
def la : Code → Option DSh
 | .seq c1 (.seq (.region id2 ops2 false) (.seq (.region id3 ops3 false) .ret)) => match ops2.toList with
  | [mk, df] => match mk.dst, mk.op, mk.guard, df.dst, df.op, df.guard with
   | some t, .makeFunc (.func k) first _, none, none, .defer ⟨.value (.tmp t'), args, _⟩, none => if t = t' ∧ first = #[] ∧ args = #[] then some ⟨c1, id2, ops2, mk, df, t, k, id3, ops3⟩ else none
   | _, _, _, _, _, _ => none
  | _ => none
 | _ => none
theorem Ly {c : Code} {s : DSh} (h : la c = some s) : c = .seq s.c1 (.seq (.region s.id2 s.ops2 false) (.seq (.region s.id3 s.ops3 false) .ret)) ∧ s.ops2.toList = [s.om, s.df] ∧ s.om.dst = some s.t ∧
 (∃ cap, s.om.op = .makeFunc (.func s.k) #[] cap) ∧ s.om.guard = none ∧ s.df.dst = none ∧ (∃ ats, s.df.op = .defer ⟨.value (.tmp s.t), #[], ats⟩) ∧ s.df.guard = none := by
 unfold la at h
 split at h
 ·split at h
  ·rename_i hl
   split at h
   ·rename_i h1 h2 h3 h4 h5 h6
    split at h
    ·rename_i hc
     obtain ⟨rfl, rfl, rfl⟩ := hc;cases h;exact ⟨rfl, hl, h1, ⟨_, h2⟩, h3, h4, ⟨_, h5⟩, h6⟩
    ·cases h
   ·cases h
  ·cases h
 ·cases h
def u7 (P : Program) (k : Nat) : Prop :=
 (∃ fn, P.funcs[k]? = some fn ∧ fn.body.isSome = true ∧ fn.name ≠ "runtime.NumGoroutine") ∧
 ∀ (args : Array Value) (w : World), CallsD P k args .returning w fun e u' w' => (∃ v, e = .returned v) ∧ u' = .returning ∧ w' = w
noncomputable def oZ (P : Program) (G : List Nat) (call : bK) (n : Nat) (rs : List ResultVar) (s : DSh) (args : List Value) (H : AH) : Option (Value × AH) :=
 (aZ P G call s.c1 (args ++ List.replicate (n - args.length) undef) H).bind fun r => match r.1 with
  | .normal => if r.2.1.length ≤ s.t then none else (gG P G call s.ops2 s.om r.2.1 r.2.2).bind fun q => (dm P G call s.ops3 s.ops3.toList q.1 q.2).bind fun z => (jf P z.1 z.2 rs).map (·, z.2)
  | _ => none
noncomputable def fO (P : Program) (G : List Nat) : Nat → bK
 | 0 => fun _ _ _ => none
 | d + 1 => fun f args H => match P.funcs[f]? with
  | some fn => if fn.name = "runtime.NumGoroutine" then none else match fn.body with
   | some c => match la c with
    | none => pV P G (fO P G d) fn.ntmps fn.results.toList c args H
    | some s => Lt (u7 P s.k) (oZ P G (fO P G d) fn.ntmps fn.results.toList s args H)
   | none => none
  | none => none
section
variable {P : Program} {w0 : World} {B : Nat} {ρ : bR} {H : AH} {w : World} {G : List Nat} {call : bK}
theorem QV {A : List Value} {a : Act} (hA : cD P ρ A a) (hR : Rel P w0 B ρ H w) {r : ResultVar} {v : Value} (h : lF P A H r = some v) :
 ∃ v', (match r with | .tmp t => pure (a.tmps.getD t undef) | .cell x t => do loadVar t (← asAddr (a.tmps.getD x undef)) : Sem Value).run P w = .ok v' w ∧ VRel P ρ v v' := by
 have slot : ∀ t, VRel P ρ (A[t]?.getD undef) (a.tmps.getD t undef) := fun t => xI (G := []) hA (fun g hg => by simp at hg) (x := .tmp t) rfl
 cases r with
 | tmp t => simp only [lF] at h; cases h; exact ⟨_, rfl, slot t⟩
 | cell x t =>
  simp only [lF] at h;obtain ⟨g, hg, h⟩ := aI.1 h
  cases g with
  | none =>
   obtain ⟨a', y', ha, hr, hv⟩ := ae4 hR h (slot x);refine ⟨y', ?_, hv⟩;simp only [ha];simp [asAddr, loadVar, o3 hg]
   simpa using hr
  | some n =>
   obtain ⟨a', ys, ha, hr, hv⟩ := MM hR h (slot x);obtain ⟨hag, hsz⟩ := o4 hg w;refine ⟨.agg ys, ?_, hv⟩;simp only [ha];simp [asAddr, loadVar, hag, dg hsz, hr]
theorem ae8 {A : List Value} {a : Act} (hA : cD P ρ A a) (hR : Rel P w0 B ρ H w) : ∀ {rs : List ResultVar} {vs : List Value}, tw P A H rs = some vs →
 ∃ vs', (rs.mapM (fun r => (match r with | .tmp t => pure (a.tmps.getD t undef) | .cell x t => do loadVar t (← asAddr (a.tmps.getD x undef)) : Sem Value))).run P w = .ok vs' w ∧ LRel P ρ vs vs' := by
 intro rs
 induction rs with
 | nil => intro vs h; simp only [tw] at h; cases h; exact ⟨[], rfl, LRel.nil⟩
 | cons r rs ih =>
  intro vs h;simp only [tw] at h;obtain ⟨v, hv, h⟩ := aI.1 h;obtain ⟨vs0, hvs, h⟩ := aI.1 h;cases h;obtain ⟨v', hr, hv'⟩ := QV hA hR hv;obtain ⟨vs', hrs, hvs'⟩ := ih hvs;refine ⟨v' :: vs', ?_, hvs'.cons hv'⟩;rw [List.mapM_cons];simp only [Sem.run_bind, hr, Result.andThen_ok, hrs, Sem.run_pure]
theorem zK {A : List Value} {a : Act} (hA : cD P ρ A a) (hR : Rel P w0 B ρ H w) {fn : Func} {v : Value} (h : jf P A H fn.results.toList = some v) :
 ∃ v', (results fn a.tmps).run P w = .ok v' w ∧ VRel P ρ v v' := by
 unfold jf at h;obtain ⟨vs, hvs, e⟩ := bi.1 h;obtain ⟨vs', hrun, hl⟩ := ae8 hA hR hvs
 have hm : ∀ g : ResultVar → Sem Value, (fn.results.mapM g).run P w = ((fn.results.toList.mapM g >>= fun l => pure l.toArray : Sem (Array Value))).run P w := by
  intro g;rw [Array.mapM_eq_mapM_toList]
  rfl
 have h2 : (results fn a.tmps).run P w = .ok (if h : vs'.toArray.size = 1 then vs'.toArray[0] else .tuple vs'.toArray) w := by
  unfold results;rw [Sem.run_bind, hm, Sem.run_bind]
  erw [hrun]
  rfl
 refine ⟨_, h2, ?_⟩;have hlen := hl.1
 split at e
 ·rename_i x
  subst e
  match vs', hlen, hl with
  | [y], _, hl => simpa using hl.2 0 _ _ rfl rfl
 ·rename_i hne
  subst e
  have : ¬ vs'.toArray.size = 1 := by
   intro h1
   match vs, hlen, hne with
   | [x], _, hne => exact hne x rfl
   | [], hlen, _ => simp at hlen h1; omega
   | x :: y :: zs, hlen, _ => simp at hlen h1; omega
  rw [dif_neg this];exact .tuple (by simp [hlen]) (fun i x y hx hy => hl.2 i x y (by simpa using hx) (by simpa using hy))
theorem Qh (hcall : mh P G call) {ops : Array Oper} (ds : List Deferred) {Q : Exit → Act → World → Prop} : ∀ (l : List Oper) {ρ : bR} {A : List Value} {H : AH} {a : Act} {w : World} {A' : List Value} {H' : AH}, dm P G call ops l A H = some (A', H') →
 cD P ρ A a → GlobRel ρ G → Rel P w0 B ρ H w → (∀ a' w', BQ P w0 B G ρ H w A' H' a' w' → Q .normal { a' with defers := ds } w') → wpList P ops Q l { a with defers := ds } w := by
 intro l
 induction l with
 | nil =>
  intro ρ A H a w A' H' h hA hG hR hQ;simp only [dm] at h;cases h;exact hQ a w ⟨ρ, hA, hG, jc.refl _ _ _, hR⟩
 | cons o rest ih =>
  intro ρ A H a w A' H' h hA hG hR hQ;simp only [dm] at h;obtain ⟨⟨A1, H1⟩, hs, h⟩ := aI.1 h;simp only at h;unfold gG at hs
  split at hs
  ·rename_i hok
   unfold wpList;have hwr := u4 hA ops o;rw [show Region.wanted o (yielded ops ({ a with defers := ds } : Act).tmps) = Region.wanted o (dO ops A) from hwr]
   split at hs
   ·rename_i hw
    rw [if_pos hw];obtain ⟨⟨v, H2⟩, ho, e⟩ := bi.1 hs;cases e;have hr := wt hcall hA hG hR hok ho;refine .inl (fu.wp (a := { a with defers := ds }) (fu.congr hr rfl) (fun v' w' hv => ?_));obtain ⟨ρ', hv, hE, hR'⟩ := hv;have := ih (a := a.put o.dst v') h (kC (hA.mono hE.le) o.dst hv) (hG.mono hE.le) hR' (fun a' w'' hp => hQ a' w'' (hp.trans hR hE))
    have e : ({ a.put o.dst v' with defers := ds } : Act) = ({ a with defers := ds } : Act).put o.dst v' := by cases o.dst <;> rfl
    rw [e] at this;exact this
   ·rename_i hw
    rw [if_neg hw];cases hs;have := ih (a := a.put o.dst undef) h (kC hA o.dst VRel.undef) hG hR hQ
    have e : ({ a.put o.dst undef with defers := ds } : Act) = ({ a with defers := ds } : Act).put o.dst undef := by cases o.dst <;> rfl
    rw [e] at this;exact this
  ·cases hs
theorem Lx (hcall : mh P G call) (hmono : ix call) (hm : P.follows .mixedOrders = true) {f : Nat} {fn : Func} {c : Code} {s : DSh} (hf : P.funcs[f]? = some fn) (hb : fn.body = some c) (hd : la c = some s)
 {args : List Value} {args' : Array Value} {v : Value} {H' : AH} (h : Lt (u7 P s.k) (oZ P G call fn.ntmps fn.results.toList s args H) = some (v, H'))
 (hA : cD P ρ (args ++ List.replicate (fn.ntmps - args.length) undef) { tmps := args' ++ Array.replicate (fn.ntmps - args'.size) undef, defers := [] }) (hG : GlobRel ρ G) (hR : Rel P w0 B ρ H w) :
 Calls P f args' w fun e w' => ∃ v' ρ', e = .returned v' ∧ VRel P ρ' v v' ∧ jc ρ H w ρ' H' w' ∧ Rel P w0 B ρ' H' w' := by
 obtain ⟨⟨⟨fk, hfk, hbk, hnk⟩, hcd⟩, h⟩ := ol h;obtain ⟨hc, hl2, hdst, ⟨cap, hop⟩, hg, hdd, ⟨ats, hdo⟩, hdg⟩ := Ly hd;unfold oZ at h;obtain ⟨⟨e1, A1, H1⟩, h1, h⟩ := aI.1 h
 cases e1 with
 | exit i => cases h
 | ret => cases h
 | normal =>
  simp only at h
  split at h
  ·cases h
  rename_i hlt
  obtain ⟨⟨A2, H2⟩, h2, h⟩ := aI.1 h;obtain ⟨⟨A3, H3⟩, h3, h⟩ := aI.1 h;obtain ⟨x, hx, e⟩ := bi.1 h;cases e;refine calls_of_wp_defers hf hb ?_;rw [hc];refine wp_seq (Cm hcall hmono hm s.c1 h1 hA hG hR (fun a1 w1 hp => ?_));obtain ⟨ρ1, hA1, hG1, hE1, hR1⟩ := hp;refine wp_seq (wp_region_list ?_);rw [hl2];have hd1 : a1.defers = [] := hA1.defers;unfold gG at h2
  split at h2
  ·rename_i hok
   have hwt : Region.wanted s.om (dO s.ops2 A1) = true := by simp [Region.wanted, hg]
   rw [if_pos hwt] at h2;obtain ⟨⟨y, H2'⟩, ho, e⟩ := bi.1 h2;cases e;refine wpList_plain hg (fun K hK => fu.wp (wt hcall hA1 hG1 hR1 hok ho) (fun v' w2 hv => hK _ _ ?_));obtain ⟨ρ2, hv, hE2, hR2⟩ := hv
   have hy : y = .func (.func s.k) #[] (cap.map (fR A1)) := by
    unfold fe at ho;rw [hop] at ho;simp at ho;exact ho.1.symm
   rw [hy] at hv;obtain ⟨f', c', rfl, hf', _⟩ := hv.func_inv
   have hf0 : f' = #[] := by
    have := hf'.1;simp at this;exact Array.eq_empty_of_size_eq_zero (by simpa using this.symm)
   subst hf0;refine wpList_plain hdg (fun K' hK' => ?_)
   have ht : (a1.put s.om.dst (.func (.func s.k) #[] c')).eval (.tmp s.t) = .func (.func s.k) #[] c' := by
    have hsz : s.t < a1.tmps.size := by have := hA1.tmps.1; simp at this; omega
    rw [hdst];simp [Act.put, Act.eval, hsz, Array.getD]
   have hrun : (execOp (a1.put s.om.dst (.func (.func s.k) #[] c')).eval s.df).run P w2 = .ok (.defer { target := .fn (.func s.k) c', args := #[] }) w2 := by
    simp [execOp, hdo, resolve, ht, Deferred.ofValue]
   unfold Oper.wp;rw [hrun, Oper.upon_defer];refine hK' _ _ (wpList_nil ?_);rw [hdd];have hA2 := kC (hA1.mono hE2.le) s.om.dst hv
   have hpd : ∀ (a : Act) (d : Option Tmp) (x : Value), (a.put d x).defers = a.defers := by intro a d x; cases d <;> rfl
   have e : ({ a1.put s.om.dst (.func (.func s.k) #[] c') with defers := { target := .fn (.func s.k) c', args := #[] } :: (a1.put s.om.dst (.func (.func s.k) #[] c')).defers } : Act).put none undef
    = { a1.put s.om.dst (.func (.func s.k) #[] c') with defers := [{ target := .fn (.func s.k) c', args := #[] }] } := by
    rw [hpd, hd1]; rfl
   rw [e];show (Code.seq (.region s.id3 s.ops3 false) .ret).wp P _ _ _;rw [hy] at h3;refine wp_seq (wp_region_list (Qh hcall _ _ h3 hA2 (hG1.mono hE2.le) hR2 (fun a3 w3 hp => ?_)));obtain ⟨ρ3, hA3, hG3, hE3, hR3⟩ := hp;refine wp_ret ?_;obtain ⟨v3, hr3, hv3⟩ := zK hA3 hR3 hx
   have hbn : ¬ (fk.body = none) := by intro hb; rw [hb] at hbk; cases hbk
   refine leaves_cons (f := s.k) (args := c') (by simp) (by simp [invoke, callFunc, hfk, hnk, hbn]) (CallsD.mono (hcd _ _) ?_)
   rintro e' u' w' ⟨⟨v0, rfl⟩, rfl, rfl⟩
   exact ⟨v3, hr3, v3, ρ3, rfl, hv3, hE1.trans hR (hE2.trans hR1 hE3), hR3⟩
  ·cases h2
theorem K6 (hm : ix call) {n : Nat} {rs : List ResultVar} {s : DSh} {args : List Value} {v : Value} {H' : AH} (h : oZ P G call n rs s args H = some (v, H')) : H.size ≤ H'.size := by
 unfold oZ at h;obtain ⟨⟨e1, A1, H1⟩, h1, h⟩ := aI.1 h
 cases e1 with
 | exit i => cases h
 | ret => cases h
 | normal =>
  simp only at h
  split at h
  ·cases h
  obtain ⟨⟨A2, H2⟩, h2, h⟩ := aI.1 h;obtain ⟨⟨A3, H3⟩, h3, h⟩ := aI.1 h;obtain ⟨x, hx, e⟩ := bi.1 h;cases e;have g1 := BT hm _ h1;have g2 : H1.size ≤ H2.size := sA (P := P) (G := G) (call := call) hm [s.om] (ops := s.ops2) (A := A1) (H := H1) (r := (A2, H2)) (by simp [dm, h2]);have g3 := sA hm _ h3;simp only at g1 g3;exact fT g1 (fT g2 g3)
theorem Cj (hm : P.follows .mixedOrders = true) : ∀ d, mh P G (fO P G d) ∧ ix (fO P G d) := by
 intro d
 induction d with
 | zero => exact ⟨fun f args H v H' h => (by cases h), fun f args H v H' h => (by cases h)⟩
 | succ d ih =>
  constructor
  ·intro f args H v H' h
   simp only [fO] at h
   cases hf : P.funcs[f]? with
   | none => rw [hf] at h; cases h
   | some fn =>
    rw [hf] at h;simp only at h
    split at h
    ·cases h
    ·rename_i hname
     cases hb : fn.body with
     | none => rw [hb] at h; cases h
     | some c =>
      rw [hb] at h;simp only at h;refine ⟨⟨fn, rfl, by rw [hb]; rfl, hname⟩, fun w0 B ρ w args' hR hG hargs => ?_⟩
      have hA : cD P ρ (args ++ List.replicate (fn.ntmps - args.length) undef) { tmps := args'.toArray ++ Array.replicate (fn.ntmps - args'.toArray.size) undef, defers := [] } := by
       refine ⟨?_, rfl⟩;simp only [Array.toList_append, Array.toList_replicate, List.size_toArray];rw [hargs.1];refine hargs.append ⟨rfl, fun i x y hx hy => ?_⟩;rw [hx] at hy;cases hy;rw [List.getElem?_replicate] at hx
       split at hx
       ·cases hx; exact VRel.undef
       ·cases hx
      cases hd : la c with
      | some s => rw [hd] at h; exact Lx ih.1 ih.2 hm hf hb hd h hA hG hR
      | none =>
      rw [hd] at h;simp only [pV] at h;obtain ⟨⟨e, A', H2⟩, hc, h⟩ := aI.1 h;refine calls_of_wp hf hb ?_;refine Cm ih.1 ih.2 hm c hc hA hG hR (fun a' w' hp => ?_);obtain ⟨ρ', hA', hG', hE, hR'⟩ := hp
      have fin : ∀ {x : Value} {H3 : AH}, (jf P A' H2 fn.results.toList).map (·, H2) = some (x, H3) → a'.defers = [] ∧ ∃ v', (results fn a'.tmps).run P w' = .ok v' w' ∧ ∃ v'' ρ'', Ending.returned v' = .returned v'' ∧ VRel P ρ'' x v'' ∧ jc ρ H w ρ'' H3 w' ∧ Rel P w0 B ρ'' H3 w' := by
       intro x H3 hx;obtain ⟨y, hy, e⟩ := bi.1 hx;cases e;obtain ⟨v', hr, hv⟩ := zK hA' hR' hy;exact ⟨hA'.defers, v', hr, v', ρ', rfl, hv, hE, hR'⟩
      cases e with
      | normal => exact fin h
      | ret => exact fin h
      | exit i => cases h
  ·intro f args H v H' h
   simp only [fO] at h
   cases hf : P.funcs[f]? with
   | none => rw [hf] at h; cases h
   | some fn =>
    rw [hf] at h;simp only at h
    split at h
    ·cases h
    ·cases hb : fn.body with
     | none => rw [hb] at h; cases h
     | some c =>
      rw [hb] at h;simp only [pV] at h
      cases hd : la c with
      | some s =>
       rw [hd] at h;obtain ⟨_, h⟩ := ol h;exact K6 ih.2 h
      | none =>
      rw [hd] at h;simp only at h;obtain ⟨⟨e, A', H2⟩, hc, h⟩ := aI.1 h;have h1 := BT ih.2 c hc;unfold ZW at h
      split at h
      ·cases h
      ·obtain ⟨y, hy, e⟩ := bi.1 h
       cases e; exact h1
end
def ZP (c1 c2 : bK) : Prop := ∀ f args H r, c1 f args H = some r → c2 f args H = some r
section
variable {P : Program} {G : List Nat} {c1 c2 : bK}
theorem an0 (h : ZP c1 c2) {ev : Operand → Value} {o : Oper} {H : AH} {r : Value × AH} (hr : fe P c1 ev o H = some r) : fe P c2 ev o H = some r := by
 obtain ⟨dst, op, type, pos, after, guard⟩ := o
 cases op with
 | call c =>
  obtain ⟨callee, args, ats⟩ := c
  cases callee with
  | value f =>
   simp only [fe] at hr ⊢;obtain ⟨x, hx, hr⟩ := aI.1 hr;rw [hx];exact h _ _ _ _ hr
  | invoke r m => exact hr
  | builtin b => exact hr
 | makeMap t r => cases r <;> exact hr
 | slice t x lo hi mx => cases lo <;> cases hi <;> cases mx <;> exact hr
 | _ => exact hr
theorem BZ (h : ZP c1 c2) {ops : Array Oper} {o : Oper} {A : List Value} {H : AH} {r : List Value × AH} (hr : gG P G c1 ops o A H = some r) : gG P G c2 ops o A H = some r := by
 unfold gG at hr ⊢
 split at hr
 ·rename_i hok
  rw [if_pos hok]
  split at hr
  ·rename_i hw
   rw [if_pos hw];obtain ⟨x, hx, e⟩ := bi.1 hr;rw [an0 h hx];exact congrArg some e
  ·rename_i hw
   rw [if_neg hw];exact hr
 ·cases hr
theorem sy (h : ZP c1 c2) {ops : Array Oper} : ∀ (l : List Oper) {A : List Value} {H : AH} {r : List Value × AH}, dm P G c1 ops l A H = some r → dm P G c2 ops l A H = some r := by
 intro l
 induction l with
 | nil => intro A H r hr; exact hr
 | cons o l ih =>
  intro A H r hr;simp only [dm] at hr ⊢;obtain ⟨s, hs, hr⟩ := aI.1 hr;rw [BZ h hs];exact ih hr
theorem ahW (h : ZP c1 c2) {ops : Array Oper} {A : List Value} {H : AH} {r : List Value × AH} (hr : dm P G c1 ops ops.toList A H = some r) : jS P G c2 ops A H = jS P G c1 ops A H := by
 funext i
 have h1 := sy h _ (xn hr i);unfold jS at h1 ⊢;rw [h1]; rfl
theorem ZV (h : ZP c1 c2) {ops : Array Oper} {A : List Value} {H : AH} {r : List Value × AH} (hr : mW P G c1 ops A H = some r) : mW P G c2 ops A H = some r := by
 obtain ⟨h1, h2, h3⟩ := gF hr;unfold mW;rw [h1];simp only
 cases h4 : d5 ops.toList with
 | nil => exact sy h _ h3
 | cons p ps =>
  simp only;rw [kH ?_]
  ·exact sy h _ h3
  ·rw [ahW h h3, ← h4]; exact h2
theorem od (h : ZP c1 c2) : ∀ (c : Code) {A : List Value} {H : AH} {r : AR}, aZ P G c1 c A H = some r → aZ P G c2 c A H = some r := by
 intro c
 induction c with
 | region id ops draw =>
  intro A H r hr;simp only [aZ] at hr ⊢;obtain ⟨s, hs, e1⟩ := bi.1 hr
  have : gn P G c2 ops draw A H = some s := by
   cases draw with
   | true => exact ZV h hs
   | false => exact sy h _ hs
  rw [this]; exact congrArg some e1
 | seq x y ihx ihy =>
  intro A H r hr;simp only [aZ] at hr ⊢;obtain ⟨s, hx, hr⟩ := aI.1 hr;rw [ihx hx];simp only [bP]
  split at hr
  ·exact ihy hr
  ·exact hr
 | cond c x y ihx ihy =>
  intro A H r hr;simp only [aZ] at hr ⊢
  split at hr
  ·exact ihx hr
  ·exact ihy hr
  ·cases hr
 | block id x ih =>
  intro A H r hr;simp only [aZ] at hr ⊢;obtain ⟨s, hx, e2⟩ := bi.1 hr;rw [ih hx]; exact congrArg some e2
 | loop x ih =>
  intro A H r hr;simp only [aZ] at hr ⊢;obtain ⟨n, hn⟩ := dl.1 hr;refine dl.2 ⟨n, ?_⟩
  clear hr
  induction n generalizing A H with
  | zero => cases hn
  | succ n ihn =>
   simp only [fv] at hn ⊢;obtain ⟨s, hx, hr⟩ := aI.1 hn;rw [ih hx];simp only [bP]
   split at hr
   ·exact ihn hr
   ·exact hr
 | _ => intro A H r hr; exact hr
theorem ZU (h : ZP c1 c2) {n : Nat} {rs : List ResultVar} {c : Code} {args : List Value} {H : AH} {r : Value × AH} (hr : pV P G c1 n rs c args H = some r) : pV P G c2 n rs c args H = some r := by
 unfold pV at hr ⊢;obtain ⟨s, hs, hr⟩ := aI.1 hr;rw [od h _ hs];exact hr
theorem VI (h : ZP c1 c2) {n : Nat} {rs : List ResultVar} {s : DSh} {args : List Value} {H : AH} {r : Value × AH} (hr : oZ P G c1 n rs s args H = some r) : oZ P G c2 n rs s args H = some r := by
 unfold oZ at hr ⊢;obtain ⟨⟨e1, A1, H1⟩, h1, hr⟩ := aI.1 hr;rw [od h _ h1];simp only [bP]
 cases e1 with
 | exit i => exact hr
 | ret => exact hr
 | normal =>
  simp only at hr ⊢
  split at hr
  ·cases hr
  rename_i hlt
  rw [if_neg hlt];obtain ⟨q, h2, hr⟩ := aI.1 hr;obtain ⟨z, h3, hr⟩ := aI.1 hr;rw [BZ h h2];simp only [bP];rw [sy h _ h3];exact hr
theorem Og : ∀ d, ZP (fO P G d) (fO P G (d + 1)) := by
 intro d
 induction d with
 | zero => intro f args H r h; cases h
 | succ d ih =>
  intro f args H r h;rw [fO] at h ⊢;simp only [] at h ⊢
  cases hf : P.funcs[f]? with
  | none => rw [hf] at h; cases h
  | some fn =>
   rw [hf] at h;simp only at h ⊢
   split at h
   ·cases h
   ·rename_i hn
    rw [if_neg hn]
    cases hb : fn.body with
    | none => rw [hb] at h; cases h
    | some c =>
     rw [hb] at h;simp only at h ⊢
     cases hd : la c with
     | none => rw [hd] at h; exact ZU ih h
     | some s =>
      rw [hd] at h;obtain ⟨h1, h2⟩ := ol h;simp only;rw [kH h1];exact VI ih h2
theorem kF {d e : Nat} (h : d ≤ e) : ZP (fO P G d) (fO P G e) := by
 induction e with
 | zero => rw [show d = 0 from by omega]; exact fun _ _ _ _ h => h
 | succ e ih =>
  by_cases hd : d = e + 1
  ·rw [hd]; exact fun _ _ _ _ h => h
  ·exact fun f args H r hr => Og e f args H r (ih (by omega) f args H r hr)
open Classical in
noncomputable def aF (P : Program) (G : List Nat) : bK := fun f args H => if h : ∃ d r, fO P G d f args H = some r then some h.choose_spec.choose else none
theorem BU {f : Nat} {args : List Value} {H : AH} {r : Value × AH} : aF P G f args H = some r ↔ ∃ d, fO P G d f args H = some r := by
 unfold aF
 constructor
 ·intro h
  split at h
  ·rename_i hx
   cases h;exact ⟨_, hx.choose_spec.choose_spec⟩
  ·cases h
 ·rintro ⟨n, hn⟩
  have hx : ∃ d r, fO P G d f args H = some r := ⟨n, r, hn⟩;rw [dif_pos hx];have h1 := kF (Nat.le_max_right n hx.choose) _ _ _ _ hx.choose_spec.choose_spec;have h2 := kF (Nat.le_max_left n hx.choose) _ _ _ _ hn;rw [h2] at h1;exact h1.symm
theorem aqE (hm : P.follows .mixedOrders = true) : mh P G (aF P G) ∧ ix (aF P G) := by
 constructor
 ·intro f args H v H' h
  obtain ⟨d, hd⟩ := BU.1 h;exact (Cj hm d).1 f args H v H' hd
 ·intro f args H v H' h
  obtain ⟨d, hd⟩ := BU.1 h;exact (Cj hm d).2 f args H v H' hd
theorem ajH {ev : Operand → Value} {o : Oper} {H : AH} {r : Value × AH} (h : fe P (aF P G) ev o H = some r) : ∃ d, fe P (fO P G d) ev o H = some r := by
 obtain ⟨dst, op, type, pos, after, guard⟩ := o
 cases op with
 | call c =>
  obtain ⟨callee, args, ats⟩ := c
  cases callee with
  | value f =>
   simp only [fe] at h ⊢;obtain ⟨x, hx, h⟩ := aI.1 h;obtain ⟨d, hd⟩ := BU.1 h;exact ⟨d, by rw [hx]; exact hd⟩
  | invoke r m => exact ⟨0, h⟩
  | builtin b => exact ⟨0, h⟩
 | makeMap t r => cases r <;> exact ⟨0, h⟩
 | slice t x lo hi mx => cases lo <;> cases hi <;> cases mx <;> exact ⟨0, h⟩
 | _ => exact ⟨0, h⟩
theorem K8 {ops : Array Oper} : ∀ (l : List Oper) {A : List Value} {H : AH} {r : List Value × AH}, dm P G (aF P G) ops l A H = some r → ∃ d, dm P G (fO P G d) ops l A H = some r := by
 intro l
 induction l with
 | nil => intro A H r hr; exact ⟨0, hr⟩
 | cons o l ih =>
  intro A H r hr;simp only [dm] at hr ⊢;obtain ⟨s, hs, hr⟩ := aI.1 hr;obtain ⟨d2, h2⟩ := ih hr
  have h1 : ∃ d, gG P G (fO P G d) ops o A H = some s := by
   unfold gG at hs ⊢
   split at hs
   ·rename_i hok
    split at hs
    ·rename_i hw
     obtain ⟨x, hx, e⟩ := bi.1 hs;obtain ⟨d, hd⟩ := ajH hx;exact ⟨d, by rw [if_pos hok, if_pos hw, hd]; exact congrArg some e⟩
    ·rename_i hw
     exact ⟨0, by rw [if_pos hok, if_neg hw]; exact hs⟩
   ·cases hs
  obtain ⟨d1, h1⟩ := h1;refine ⟨max d1 d2, ?_⟩;rw [BZ (kF (Nat.le_max_left ..)) h1];exact sy (kF (Nat.le_max_right ..)) _ h2
theorem RS (d : Nat) : ZP (fO P G d) (aF P G) := fun _ _ _ _ h => BU.2 ⟨d, h⟩
theorem K9 {ops : Array Oper} {draw : Bool} {A : List Value} {H : AH} {r : List Value × AH} (h : gn P G (aF P G) ops draw A H = some r) : ∃ d, gn P G (fO P G d) ops draw A H = some r := by
 cases draw with
 | false => exact K8 _ h
 | true =>
  simp only [gn] at h ⊢;obtain ⟨h1, h2, h3⟩ := gF h;obtain ⟨d, hd⟩ := K8 _ h3;refine ⟨d, ?_⟩;unfold mW;rw [h1];simp only
  cases h4 : d5 ops.toList with
  | nil => exact hd
  | cons p ps =>
   simp only;rw [kH ?_]
   ·exact hd
   ·rw [← ahW (RS d) hd, ← h4]; exact h2
theorem VH : ∀ (c : Code) {A : List Value} {H : AH} {r : AR}, aZ P G (aF P G) c A H = some r → ∃ d, aZ P G (fO P G d) c A H = some r := by
 intro c
 induction c with
 | region id ops draw =>
  intro A H r hr;simp only [aZ] at hr ⊢;obtain ⟨s, hs, e1⟩ := bi.1 hr;obtain ⟨d, hd⟩ := K9 hs;exact ⟨d, by rw [hd]; exact congrArg some e1⟩
 | seq x y ihx ihy =>
  intro A H r hr;simp only [aZ] at hr ⊢;obtain ⟨s, hx, hr⟩ := aI.1 hr;obtain ⟨d1, h1⟩ := ihx hx
  split at hr
  ·rename_i e
   obtain ⟨d2, h2⟩ := ihy hr;refine ⟨max d1 d2, ?_⟩;rw [od (kF (Nat.le_max_left ..)) _ h1];simp only [bP, e];exact od (kF (Nat.le_max_right ..)) _ h2
  ·refine ⟨d1, ?_⟩
   rw [h1];simp only [bP];exact hr
 | cond c x y ihx ihy =>
  intro A H r hr;simp only [aZ] at hr ⊢
  split at hr
  ·exact ihx hr
  ·exact ihy hr
  ·cases hr
 | block id x ih =>
  intro A H r hr;simp only [aZ] at hr ⊢;obtain ⟨s, hx, e2⟩ := bi.1 hr;obtain ⟨d, hd⟩ := ih hx;exact ⟨d, by rw [hd]; exact congrArg some e2⟩
 | loop x ih =>
  intro A H r hr;simp only [aZ] at hr ⊢;obtain ⟨n, hn⟩ := dl.1 hr
  have key : ∃ d, fv (aZ P G (fO P G d) x) n A H = some r := by
   clear hr
   induction n generalizing A H with
   | zero => cases hn
   | succ n ihn =>
    simp only [fv] at hn ⊢;obtain ⟨s, hx, hr⟩ := aI.1 hn;obtain ⟨d1, h1⟩ := ih hx
    split at hr
    ·rename_i e
     obtain ⟨d2, h2⟩ := ihn hr;refine ⟨max d1 d2, ?_⟩;rw [od (kF (Nat.le_max_left ..)) _ h1];simp only [bP, e]
     have key2 : ∀ (n : Nat) {A : List Value} {H : AH} {r : AR}, fv (aZ P G (fO P G d2) x) n A H = some r → fv (aZ P G (fO P G (max d1 d2)) x) n A H = some r := by
      intro n
      induction n with
      | zero => intro A H r h; cases h
      | succ n ih2 =>
       intro A H r h;simp only [fv] at h ⊢;obtain ⟨s, hx, hr⟩ := aI.1 h;rw [od (kF (Nat.le_max_right d1 d2)) _ hx];simp only [bP]
       split at hr
       ·exact ih2 hr
       ·exact hr
     exact key2 n h2
    ·refine ⟨d1, ?_⟩
     rw [h1];simp only [bP];exact hr
  obtain ⟨d, hd⟩ := key;exact ⟨d, dl.2 ⟨n, hd⟩⟩
 | _ => intro A H r hr; exact ⟨0, hr⟩
theorem aqD {f : Nat} {fn : Func} {c : Code} (hf : P.funcs[f]? = some fn) (hb : fn.body = some c) (hn : fn.name ≠ "runtime.NumGoroutine") (hds : la c = none) {args : List Value} {H : AH} {r : Value × AH}
 (h : pV P G (aF P G) fn.ntmps fn.results.toList c args H = some r) : aF P G f args H = some r := by
 unfold pV at h;obtain ⟨s, hs, h⟩ := aI.1 h;obtain ⟨d, hd⟩ := VH _ hs;refine BU.2 ⟨d + 1, ?_⟩;simp only [fO, hf, hb, if_neg hn, hds, pV, hd, bP];exact h
end
section
variable {R : Type}
abbrev tb {α β : Type} (x : Option α) (f : α → Option β) : Option β :=
 match x with
 | some a => f a
 | none => none
theorem NP {α β : Type} (x : Option α) (f : α → Option β) : tb x f = x.bind f := by cases x <;> rfl
abbrev gR (P : Program) (b : Builtin) (argTypes : Array TypeId) (args : List Value) (H : AH) (k : Value → AH → Option R) : Option R :=
 match b, args with
 | .len, [x] => match (argTypes[0]?).bind fun t => P.underlying t with
  | some (.slice _) => match x with | .slice _ n _ => k (.int .i64 n) H | _ => none
  | some .string => match x with | .string s => k (.int .i64 s.size) H | _ => none
  | some (.map _ _) => (ny x H).bind fun v => k v H
  | _ => none
 | .max, args => (iC args).bind fun v => k v H
 | .min, args => (jM args).bind fun v => k v H
 | .append, [s, x] => (argTypes[0]?).bind fun t => (cK P t).bind fun el => (cR P el).bind fun e => (ga P el).bind fun by' => (bZ P el).bind fun z =>
  if z.cells.size = e ∧ (argTypes[1]?).bind (fun u => cK P u) = some el then (fN e by' s x H).bind fun r => k r.1 r.2 else none
 | .delete, [m, key] => (argTypes[0]?).bind fun t => (cL P t).bind fun kt => (cY P kt.1).bind fun fl => (nr fl m key H).bind fun H' => k (.tuple #[]) H'
 | _, _ => none
abbrev qt (P : Program) (call : bK) (ev : Operand → Value) (o : Oper) (H : AH) (k : Value → AH → Option R) : Option R :=
 match o.op with
 | .move x => k (ev x) H
 | .assign x => k (ev x) H
 | .pick c a b => (bd (ev c) (ev a) (ev b)).bind fun v => k v H
 | .alloc t => (bZ P t).bind fun z => k (.pointer (some ⟨H.size, 0, none⟩)) (H.push (.cells false z.cells.toList))
 | .box _ x => k (.pointer (some ⟨H.size, 0, none⟩)) (H.push (.cells false (ev x).cells.toList))
 | .build t parts => match P.underlying t with
  | some (.struct fs) => (bZ P t).bind fun z => (jC P fs.toList).bind fun ps => (du (ps[·]?) z.cells.toList (parts.toList.map fun p => (p.1, ev p.2))).bind fun cs => k (.agg cs.toArray) H
  | some (.array _ el) => (bZ P t).bind fun z => (cR P el).bind fun e => (du (fun i => some (i * e, e)) z.cells.toList (parts.toList.map fun p => (p.1, ev p.2))).bind fun cs => k (.agg cs.toArray) H
  | _ => none
 | .buildSlice t len parts => (cK P t).bind fun el => (cR P el).bind fun e => (bZ P el).bind fun z =>
  if 0 < e ∧ z.cells.size = e ∧ len * e ≤ 2 ^ 24 then
   (du (fun i => some (i * e, e)) (List.replicate len z.cells.toList).flatten (parts.toList.map fun p => (p.1, ev p.2))).bind fun cs => k (.slice (some ⟨H.size, 0, none⟩) len e) (H.push (.cells false cs))
  else none
 | .load t a => (fP P t).bind fun g => match g with
  | some n => (aA n (ev a) H).bind fun v => k v H
  | none => (au (ev a) H).bind fun v => k v H
 | .store t a x => (cR P t).bind fun n => (cG n (ev a) (ev x) H).bind fun H' => k undef H'
 | .nilCheck x => (uy (ev x)).bind fun v => k v H
 | .binOp op t x y _ => (ai (zg P t) op (ev x) (ev y)).bind fun v => k v H
 | .unOp op _ x => (oc op (ev x)).bind fun v => k v H
 | .convert src dst x => match P.underlying src with
  | some _ => (cg (rj P dst) (ev x)).bind fun v => k v H
  | none => none
 | .makeFunc fn first captured => k (.func fn (first.map ev) (captured.map ev)) H
 | .makeMap _ none => k (.map (some H.size)) (H.push (.map [] 0))
 | .makeSlice t l c => (cK P t).bind fun el => (cR P el).bind fun e => (ga P el).bind fun by' => (bZ P el).bind fun z => (nz z.cells.toList e by' (ev l) (ev c) H).bind fun r => k r.1 r.2
 | .slice t x lo hi none => (cK P t).bind fun el => (cR P el).bind fun e => (fH e (ev x) (lo.map ev) (hi.map ev)).bind fun v => k v H
 | .slice t x none (some hi) (some mx) => (cK P t).bind fun el => (cR P el).bind fun _ => (jB (ev x) (ev hi) (ev mx)).bind fun v => k v H
 | .fieldAddr s x f => (ko P s f).bind fun f => (cR P f.type).bind fun n => if n = 0 then none else (FX f.offset (ev x)).bind fun v => k v H
 | .field s x f => (ko P s f).bind fun f => (fP P f.type).bind fun n => (ly n f.offset (ev x)).bind fun v => k v H
 | .indexAddr t x i => match P.underlying t with
  | some (.slice el) => (cR P el).bind fun e => (oP e (ev x) (ev i)).bind fun v => k v H
  | some (.array len el) => (cR P el).bind fun e => (jQ len e (ev x) (ev i)).bind fun v => k v H
  | _ => none
 | .index t x i => match P.underlying t with
  | some (.array len el) => (cR P el).bind fun e => (fP P el).bind fun n => (jA len n e (ev x) (ev i)).bind fun v => k v H
  | some .string => (jz (ev x) (ev i)).bind fun v => k v H
  | _ => none
 | .lookup t m key ok => (cL P t).bind fun kt => (cY P kt.1).bind fun fl => (bZ P kt.2).bind fun z => (db fl z (ev m) (ev key) ok H).bind fun v => k v H
 | .mapUpdate t m key x => (cL P t).bind fun kt => (cY P kt.1).bind fun fl => (eZ fl (ev m) (ev key) (ev x) H).bind fun H' => k undef H'
 | .extract t i => (ag (ev t) i).bind fun v => k v H
 | .call c => match c.callee with
  | .builtin b => gR P b c.argTypes (c.args.toList.map ev) H k
  | .value f => (cf (ev f) (c.args.toList.map ev)).bind fun fa => (call fa.1 fa.2 H).bind fun r => k r.1 r.2
  | _ => none
 | _ => none
abbrev Ci (P : Program) (b : Builtin) (argTypes : Array TypeId) (args : List Value) (H : AH) (k : Value → AH → Option R) : Option R :=
 match b, args with
 | .len, [x] => match (argTypes[0]?).bind fun t => P.underlying t with
  | some (.slice _) => match x with | .slice _ n _ => k (.int .i64 n) H | _ => none
  | some .string => match x with | .string s => k (.int .i64 s.size) H | _ => none
  | some (.map _ _) => (ny x H).bind fun v => k v H
  | _ => none
 | .max, args => (iC args).bind fun v => k v H
 | .min, args => (jM args).bind fun v => k v H
 | .append, [s, x] => tb (argTypes[0]?) fun t => tb (cK P t) fun el => tb (cR P el) fun e => tb (ga P el) fun by' => tb (bZ P el) fun z =>
  if z.cells.size = e ∧ (argTypes[1]?).bind (fun u => cK P u) = some el then (fN e by' s x H).bind fun r => k r.1 r.2 else none
 | .delete, [m, key] => tb (argTypes[0]?) fun t => tb (cL P t) fun kt => tb (cY P kt.1) fun fl => (nr fl m key H).bind fun H' => k (.tuple #[]) H'
 | _, _ => none
abbrev cOp (P : Program) (call : bK) (ev : Operand → Value) (o : Oper) (H : AH) (k : Value → AH → Option R) : Option R :=
 match o.op with
 | .move x => k (ev x) H
 | .assign x => k (ev x) H
 | .pick c a b => (bd (ev c) (ev a) (ev b)).bind fun v => k v H
 | .alloc t => tb (bZ P t) fun z => k (.pointer (some ⟨H.size, 0, none⟩)) (H.push (.cells false z.cells.toList))
 | .box _ x => k (.pointer (some ⟨H.size, 0, none⟩)) (H.push (.cells false (ev x).cells.toList))
 | .build t parts => match P.underlying t with
  | some (.struct fs) => tb (bZ P t) fun z => tb (jC P fs.toList) fun ps => (du (ps[·]?) z.cells.toList (parts.toList.map fun p => (p.1, ev p.2))).bind fun cs => k (.agg cs.toArray) H
  | some (.array _ el) => tb (bZ P t) fun z => tb (cR P el) fun e => (du (fun i => some (i * e, e)) z.cells.toList (parts.toList.map fun p => (p.1, ev p.2))).bind fun cs => k (.agg cs.toArray) H
  | _ => none
 | .buildSlice t len parts => tb (cK P t) fun el => tb (cR P el) fun e => tb (bZ P el) fun z =>
  if 0 < e ∧ z.cells.size = e ∧ len * e ≤ 2 ^ 24 then
   (du (fun i => some (i * e, e)) (List.replicate len z.cells.toList).flatten (parts.toList.map fun p => (p.1, ev p.2))).bind fun cs => k (.slice (some ⟨H.size, 0, none⟩) len e) (H.push (.cells false cs))
  else none
 | .load t a => tb (fP P t) fun g => match g with
  | some n => (aA n (ev a) H).bind fun v => k v H
  | none => (au (ev a) H).bind fun v => k v H
 | .store t a x => tb (cR P t) fun n => (cG n (ev a) (ev x) H).bind fun H' => k undef H'
 | .nilCheck x => (uy (ev x)).bind fun v => k v H
 | .binOp op t x y _ => (ai (zg P t) op (ev x) (ev y)).bind fun v => k v H
 | .unOp op _ x => (oc op (ev x)).bind fun v => k v H
 | .convert src dst x => match P.underlying src with
  | some _ => (cg (rj P dst) (ev x)).bind fun v => k v H
  | none => none
 | .makeFunc fn first captured => k (.func fn (first.map ev) (captured.map ev)) H
 | .makeMap _ none => k (.map (some H.size)) (H.push (.map [] 0))
 | .makeSlice t l c => tb (cK P t) fun el => tb (cR P el) fun e => tb (ga P el) fun by' => tb (bZ P el) fun z => (nz z.cells.toList e by' (ev l) (ev c) H).bind fun r => k r.1 r.2
 | .slice t x lo hi none => tb (cK P t) fun el => tb (cR P el) fun e => (fH e (ev x) (lo.map ev) (hi.map ev)).bind fun v => k v H
 | .slice t x none (some hi) (some mx) => tb (cK P t) fun el => tb (cR P el) fun _ => (jB (ev x) (ev hi) (ev mx)).bind fun v => k v H
 | .fieldAddr s x f => tb (ko P s f) fun f => tb (cR P f.type) fun n => if n = 0 then none else (FX f.offset (ev x)).bind fun v => k v H
 | .field s x f => tb (ko P s f) fun f => tb (fP P f.type) fun n => (ly n f.offset (ev x)).bind fun v => k v H
 | .indexAddr t x i => match P.underlying t with
  | some (.slice el) => tb (cR P el) fun e => (oP e (ev x) (ev i)).bind fun v => k v H
  | some (.array len el) => tb (cR P el) fun e => (jQ len e (ev x) (ev i)).bind fun v => k v H
  | _ => none
 | .index t x i => match P.underlying t with
  | some (.array len el) => tb (cR P el) fun e => tb (fP P el) fun n => (jA len n e (ev x) (ev i)).bind fun v => k v H
  | some .string => (jz (ev x) (ev i)).bind fun v => k v H
  | _ => none
 | .lookup t m key ok => tb (cL P t) fun kt => tb (cY P kt.1) fun fl => tb (bZ P kt.2) fun z => (db fl z (ev m) (ev key) ok H).bind fun v => k v H
 | .mapUpdate t m key x => tb (cL P t) fun kt => tb (cY P kt.1) fun fl => (eZ fl (ev m) (ev key) (ev x) H).bind fun H' => k undef H'
 | .extract t i => (ag (ev t) i).bind fun v => k v H
 | .call c => match c.callee with
  | .builtin b => Ci P b c.argTypes (c.args.toList.map ev) H k
  | .value f => (cf (ev f) (c.args.toList.map ev)).bind fun fa => (call fa.1 fa.2 H).bind fun r => k r.1 r.2
  | _ => none
 | _ => none
theorem gK {α β γ : Type} (x : Option α) (b : β) (k : α → β → Option γ) : ((x.map (·, b)).bind fun r => k r.1 r.2) = x.bind fun v => k v b := by cases x <;> rfl
theorem ym {β γ : Type} (x : Option β) (v : Value) (k : Value → β → Option γ) : ((x.map fun H' => (v, H')).bind fun r => k r.1 r.2) = x.bind fun H' => k v H' := by cases x <;> rfl
theorem Ig (P : Program) (b : Builtin) (ts : Array TypeId) (args : List Value) (H : AH) (k : Value → AH → Option R) : gR P b ts args H k = (cX P b ts args H).bind fun r => k r.1 r.2 := by
 cases b with
 | len =>
  match args with
  | [] => rfl
  | [x] =>
   simp only [gR, cX]
   cases (ts[0]?).bind fun t => P.underlying t with
   | none => rfl
   | some d => cases d <;> first | rfl | (cases x <;> rfl) | (simp only [gK])
  | x :: y :: zs => rfl
 | max => simp only [gR, cX, gK]
 | min => simp only [gR, cX, gK]
 | append =>
  match args with
  | [] => rfl
  | [x] => rfl
  | [s, x] =>
   simp only [gR, cX, Option.bind_assoc]
   congr 1; funext t; congr 1; funext el; congr 1; funext e; congr 1; funext b; congr 1; funext z
   split
   ·rfl
   ·rfl
  | x :: y :: z :: zs => rfl
 | delete =>
  match args with
  | [] => rfl
  | [x] => rfl
  | [s, x] => simp only [gR, cX, Option.bind_assoc, ym]
  | x :: y :: z :: zs => rfl
 | _ => rfl
theorem ajP (P : Program) (call : bK) (ev : Operand → Value) (o : Oper) (H : AH) (k : Value → AH → Option R) : qt P call ev o H k = (fe P call ev o H).bind fun r => k r.1 r.2 := by
 obtain ⟨dst, op, type, pos, after, guard⟩ := o
 cases op with
 | call c =>
  obtain ⟨callee, args, ats⟩ := c
  cases callee with
  | value f => simp only [qt, fe, Option.bind_assoc]
  | invoke r m => rfl
  | builtin b => simp only [qt, fe]; exact Ig ..
 | makeMap t r => cases r <;> rfl
 | slice t x lo hi mx =>
  cases mx with
  | none => simp only [qt, fe, Option.bind_assoc, gK]
  | some m => cases lo <;> cases hi <;> first | rfl | (simp only [qt, fe, Option.bind_assoc, gK])
 | load t a =>
  simp only [qt, fe, Option.bind_assoc]
  congr 1
  funext g
  cases g <;> simp only [gK]
 | build t parts =>
  simp only [qt, fe]
  cases P.underlying t with
  | none => rfl
  | some d => cases d <;> first | rfl | (simp only [Option.bind_assoc, Option.bind_map]; rfl)
 | buildSlice t len parts =>
  simp only [qt, fe, Option.bind_assoc]
  congr 1; funext el; congr 1; funext e; congr 1; funext z
  split
  ·rw [Option.bind_map]; rfl
  ·rfl
 | fieldAddr s x f =>
  simp only [qt, fe, Option.bind_assoc]
  congr 1; funext el; congr 1; funext e
  split
  ·rfl
  ·rw [gK]
 | alloc t => simp only [qt, fe, Option.bind_map]; rfl
 | indexAddr t x i =>
  simp only [qt, fe]
  cases P.underlying t with
  | none => rfl
  | some d => cases d <;> first | rfl | (simp only [Option.bind_assoc, gK])
 | index t x i =>
  simp only [qt, fe]
  cases P.underlying t with
  | none => rfl
  | some d => cases d <;> first | rfl | (simp only [Option.bind_assoc, gK])
 | convert s d x =>
  simp only [qt, fe]
  cases P.underlying s with
  | none => rfl
  | some d => simp only [gK]
 | store t x y => simp only [qt, fe, Option.bind_assoc, ym]
 | mapUpdate t m key x => simp only [qt, fe, Option.bind_assoc, ym]
 | _ => first | rfl | (simp only [qt, fe, Option.bind_assoc, gK]; done)
theorem Ov (P : Program) (b : Builtin) (ts : Array TypeId) (args : List Value) (H : AH) (k : Value → AH → Option R) : Ci P b ts args H k = gR P b ts args H k := by
 unfold Ci gR;simp only [NP]
theorem aqK (P : Program) (call : bK) (ev : Operand → Value) (o : Oper) (H : AH) (k : Value → AH → Option R) : cOp P call ev o H k = qt P call ev o H k := by
 unfold cOp qt;simp only [NP, Ov]
theorem aaJ (P : Program) (call : bK) (ev : Operand → Value) (o : Oper) (H : AH) (k : Value → AH → Option R) : cOp P call ev o H k = (fe P call ev o H).bind fun r => k r.1 r.2 := (aqK ..).trans (ajP ..)
def JG (op : Op) : Bool := kY op == 0 || kY op == 2
theorem X3 {P : Program} {call : bK} {ev : Operand → Value} {o : Oper} {H : AH} (h : JG o.op = true) : fe P call ev o H = (cOp P call ev o H fun v _ => some v).map (·, H) := by
 rw [aaJ]
 cases hx : fe P call ev o H with
 | none => rfl
 | some r =>
  obtain ⟨v, H'⟩ := r;simp only [bP, fp];unfold JG at h;simp only [Bool.or_eq_true, beq_iff_eq] at h
  rcases h with h | h
  ·rw [(vc h hx).1]
  ·rw [BW h] at hx
   obtain ⟨y, _, e⟩ := bi.1 hx;rw [(Prod.mk.inj e).2]
abbrev Sc (P : Program) (G : List Nat) (call : bK) (ops : Array Oper) (o : Oper) (A : List Value) (H : AH) (k : List Value → AH → Option R) : Option R :=
 match o.op.operands.toList.all (Oa G) with
 | true => match o.guard with
  | none => cOp P call (fR A) o H fun v H' => k (lE A o.dst v) H'
  | some g => match JG o.op with
   | true => (match dO ops A g.1 == some g.2 with
    | true => cOp P call (fR A) o H fun v _ => some v
    | false => some undef).bind fun v => k (lE A o.dst v) H
   | false => (match dO ops A g.1 == some g.2 with
    | true => fe P call (fR A) o H
    | false => some (undef, H)).bind fun r => k (lE A o.dst r.1) r.2
 | false => none
theorem Ls (P : Program) (G : List Nat) (call : bK) (ops : Array Oper) (o : Oper) (A : List Value) (H : AH) (k : List Value → AH → Option R) : Sc P G call ops o A H k = (gG P G call ops o A H).bind fun s => k s.1 s.2 := by
 unfold Sc gG
 cases o.op.operands.toList.all (Oa G) with
 | false => rfl
 | true =>
  simp only [if_true];unfold Region.wanted
  cases o.guard with
  | none =>
   simp only [if_true];rw [aaJ, Option.bind_map]; rfl
  | some g =>
   obtain ⟨g, want⟩ := g;simp only
   cases hl : JG o.op with
   | true =>
    simp only
    by_cases h : (dO ops A g == some want) = true
    ·rw [if_pos h, h, X3 hl]
     simp only
     cases (cOp P call (fR A) o H fun v _ => some v) <;> rfl
    ·rw [if_neg h, Bool.eq_false_iff.2 h]; rfl
   | false =>
    simp only
    by_cases h : (dO ops A g == some want) = true
    ·rw [if_pos h, h, Option.bind_map]; rfl
    ·rw [if_neg h, Bool.eq_false_iff.2 h]; rfl
abbrev aaK (P : Program) (G : List Nat) (call : bK) (ops : Array Oper) : List Oper → List Value → AH → (List Value → AH → Option R) → Option R
 | [], A, H, k => k A H
 | o :: rest, A, H, k => Sc P G call ops o A H fun A' H' => aaK P G call ops rest A' H' k
theorem Sb (P : Program) (G : List Nat) (call : bK) (ops : Array Oper) : ∀ (l : List Oper) (A : List Value) (H : AH) (k : List Value → AH → Option R), aaK P G call ops l A H k = (dm P G call ops l A H).bind fun s => k s.1 s.2 := by
 intro l
 induction l with
 | nil => intro A H k; rfl
 | cons o l ih =>
  intro A H k;simp only [aaK, dm];rw [Ls, Option.bind_assoc]
  congr 1
  funext s
  exact ih _ _ _
noncomputable def b7 {R : Type} (x y : Option Value) (k : Option R) : Option R := Lt (x = y) k
theorem aoI {R : Type} {x y : Option Value} (h : x = y) (k : Option R) : b7 x y k = k := kH h k
noncomputable abbrev VY {R : Type} (j : Nat) (hist : List ((AH → Option Value) × AH)) (rd : AH → Option Value) (H H' : AH) (k : Option R) : List (Nat × Nat) → Option R
 | [] => k
 | pq :: rest => match pq.1 == j with
  | true => match Nat.blt pq.2 j with
   | true => match hist[pq.2]? with
    | some h => b7 (rd h.2) (rd H) (VY j hist rd H H' k rest)
    | none => none
   | false => VY j hist rd H H' k rest
  | false => match pq.2 == j with
   | true => match Nat.blt pq.1 j with
    | true => match hist[pq.1]? with
     | some h => b7 (h.1 H') (h.1 h.2) (VY j hist rd H H' k rest)
     | none => none
    | false => VY j hist rd H H' k rest
   | false => VY j hist rd H H' k rest
theorem Lu {α β : Type} (p : Prop) (x : Option α) (k : α → Option β) : (Lt p x).bind k = Lt p (x.bind k) := by unfold Lt; split <;> rfl
theorem aaQ {α β : Type} {j : Nat} {hist : List ((AH → Option Value) × AH)} {rd : AH → Option Value} {H H' : AH} (x : Option α) (k : α → Option β) : ∀ l, (VY j hist rd H H' x l).bind k = VY j hist rd H H' (x.bind k) l := by
 intro l
 induction l with
 | nil => rfl
 | cons p l ih =>
  simp only [VY]
  cases p.1 == j with
  | true =>
   cases Nat.blt p.2 j with
   | true =>
    simp only
    cases hist[p.2]? with
    | none => rfl
    | some h => simp only [b7]; rw [Lu, ih]
   | false => exact ih
  | false =>
   cases p.2 == j with
   | true =>
    cases Nat.blt p.1 j with
    | true =>
     simp only
     cases hist[p.1]? with
     | none => rfl
     | some h => simp only [b7]; rw [Lu, ih]
    | false => exact ih
   | false => exact ih
def ZJ (j : Nat) (hist : List ((AH → Option Value) × AH)) (rd : AH → Option Value) (H H' : AH) (p : Nat × Nat) : Prop :=
 (p.1 = j → p.2 < j → ∃ h, hist[p.2]? = some h ∧ rd h.2 = rd H) ∧ (p.2 = j → p.1 < j → ∃ h, hist[p.1]? = some h ∧ h.1 H' = h.1 h.2)
theorem Se {α : Type} {p : Prop} {x : Option α} {r : α} : Lt p x = some r ↔ p ∧ x = some r := ⟨ol, fun h => by rw [kH h.1]; exact h.2⟩
theorem Sg {α : Type} {j : Nat} {hist : List ((AH → Option Value) × AH)} {rd : AH → Option Value} {H H' : AH} {x : Option α} {r : α} : ∀ {l}, VY j hist rd H H' x l = some r ↔ (∀ p ∈ l, ZJ j hist rd H H' p) ∧ x = some r := by
 intro l
 induction l with
 | nil => simp [VY]
 | cons p l ih =>
  have split : (∀ q ∈ p :: l, ZJ j hist rd H H' q) ↔ ZJ j hist rd H H' p ∧ ∀ q ∈ l, ZJ j hist rd H H' q := by simp
  rw [split, and_assoc, ← ih];simp only [VY]
  by_cases h1 : p.1 = j
  ·have e1 : (p.1 == j) = true := by simpa using h1
   rw [e1];simp only
   by_cases h2 : p.2 < j
   ·have e2 : Nat.blt p.2 j = true := by simpa [Nat.blt_eq] using h2
    rw [e2];simp only
    have hn : ¬ p.2 = j := by omega
    unfold ZJ
    cases hist[p.2]? with
    | none => simp [h1, h2]
    | some h => simp only [b7]; rw [Se]; simp [h1, h2, hn]
   ·have e2 : Nat.blt p.2 j = false := by rw [Bool.eq_false_iff]; intro h; exact h2 (by simpa [Nat.blt_eq] using h)
    rw [e2];simp only;have : ZJ j hist rd H H' p := ⟨fun _ h => absurd h h2, fun _ h => absurd h (by omega)⟩;simp [this]
  ·have e1 : (p.1 == j) = false := by simpa using h1
   rw [e1];simp only
   by_cases h2 : p.2 = j
   ·have e2 : (p.2 == j) = true := by simpa using h2
    rw [e2];simp only
    by_cases h3 : p.1 < j
    ·have e3 : Nat.blt p.1 j = true := by simpa [Nat.blt_eq] using h3
     rw [e3];simp only;unfold ZJ
     cases hist[p.1]? with
     | none => simp [h1, h2, h3]
     | some h => simp only [b7]; rw [Se]; simp [h1, h2, h3]
    ·have e3 : Nat.blt p.1 j = false := by rw [Bool.eq_false_iff]; intro h; exact h3 (by simpa [Nat.blt_eq] using h)
     rw [e3];simp only;have : ZJ j hist rd H H' p := ⟨fun h => absurd h h1, fun _ h => absurd h h3⟩;simp [this]
   ·have e2 : (p.2 == j) = false := by simpa using h2
    rw [e2];simp only;have : ZJ j hist rd H H' p := ⟨fun h => absurd h h1, fun h => absurd h h2⟩;simp [this]
abbrev Kh (P : Program) (A : List Value) (o : Oper) : AH → Option Value := fun H => BY P (fR A) o.op H
noncomputable def qC (P : Program) (G : List Nat) (call : bK) (ops : Array Oper) (pairs : List (Nat × Nat)) : List Oper → Nat → List ((AH → Option Value) × AH) → List Value → AH → Option (List Value × AH)
 | [], _, _, A, H => some (A, H)
 | o :: rest, j, hist, A, H => (gG P G call ops o A H).bind fun s => VY j hist (Kh P A o) H s.2 (qC P G call ops pairs rest (j + 1) (hist ++ [(Kh P A o, H)]) s.1 s.2) pairs
noncomputable abbrev Sa (P : Program) (G : List Nat) (call : bK) (ops : Array Oper) (pairs : List (Nat × Nat)) : List Oper → Nat → List ((AH → Option Value) × AH) → List Value → AH → (List Value → AH → Option R) → Option R
 | [], _, _, A, H, k => k A H
 | o :: rest, j, hist, A, H, k => Sc P G call ops o A H fun A' H' => VY j hist (Kh P A o) H H' (Sa P G call ops pairs rest (j + 1) (hist ++ [(Kh P A o, H)]) A' H' k) pairs
theorem aaL (P : Program) (G : List Nat) (call : bK) (ops : Array Oper) (pairs : List (Nat × Nat)) : ∀ (l : List Oper) (j : Nat) (hist : List ((AH → Option Value) × AH)) (A : List Value) (H : AH) (k : List Value → AH → Option R), Sa P G call ops pairs l j hist A H k = (qC P G call ops pairs l j hist A H).bind fun s => k s.1 s.2 := by
 intro l
 induction l with
 | nil => intro j hist A H k; rfl
 | cons o l ih =>
  intro j hist A H k;simp only [Sa, qC];rw [Ls, Option.bind_assoc]
  congr 1
  funext s
  rw [aaQ, ih]
theorem VL {P : Program} {G : List Nat} {call : bK} {ops : Array Oper} {pairs : List (Nat × Nat)} {A0 : List Value} {H0 : AH} {r0 : List Value × AH} (h0 : dm P G call ops ops.toList A0 H0 = some r0) (hp : ∀ p ∈ pairs, p.1 < ops.size ∧ p.2 < ops.size ∧ p.1 ≠ p.2) :
 ∀ (l : List Oper) (j : Nat) (hist : List ((AH → Option Value) × AH)), ops.toList.drop j = l → hist.length = j → (∀ i, i < j → ∃ o, ops[i]? = some o ∧ hist[i]? = some (Kh P (jS P G call ops A0 H0 i).1 o, (jS P G call ops A0 H0 i).2)) →
  ∀ r, qC P G call ops pairs l j hist (jS P G call ops A0 H0 j).1 (jS P G call ops A0 H0 j).2 = some r ↔ (∀ p ∈ pairs, j ≤ max p.1 p.2 → jZ P (jS P G call ops A0 H0) ops p) ∧ r = r0 := by
 intro l
 induction l with
 | nil =>
  intro j hist hl hlen hh r
  have hj : ops.size ≤ j := by
   have := congrArg List.length hl;simp at this; omega
  have hst : jS P G call ops A0 H0 j = r0 := by
   unfold jS;rw [List.take_of_length_le (by simpa using hj), h0]; rfl
  simp only [qC, hst]
  constructor
  ·intro e
   exact ⟨fun p hpm hm => absurd (hp p hpm) (by omega), (iu e).symm⟩
  ·rintro ⟨_, rfl⟩; rfl
 | cons o l ih =>
  intro j hist hl hlen hh r
  have hj : ops.toList[j]? = some o := by
   have := congrArg (·[0]?) hl
   simpa using this
  have ho : ops[j]? = some o := by simpa using hj
  have hjs : j < ops.size := by
   have := (Ap.1 hj).1
   simpa using this
  have hstep := NG h0 ho
  have hl' : ops.toList.drop (j + 1) = l := by
   have := congrArg (List.drop 1) hl
   simpa [List.drop_drop, Nat.add_comm] using this
  have hh' : ∀ i, i < j + 1 → ∃ o', ops[i]? = some o' ∧ (hist ++ [(Kh P (jS P G call ops A0 H0 j).1 o, (jS P G call ops A0 H0 j).2)])[i]? = some (Kh P (jS P G call ops A0 H0 i).1 o', (jS P G call ops A0 H0 i).2) := by
   intro i hi
   by_cases e : i = j
   ·subst e
    exact ⟨o, ho, by rw [List.getElem?_append_right (by omega)]; simp [hlen]⟩
   ·obtain ⟨o', h1, h2⟩ := hh i (by omega)
    exact ⟨o', h1, by rw [List.getElem?_append_left (by omega)]; exact h2⟩
  have hi := ih (j + 1) _ hl' (by simp [hlen]) hh' r;simp only [qC];rw [hstep];simp only [bP];rw [Sg, hi]
  have key : ∀ p ∈ pairs, max p.1 p.2 = j → (ZJ j hist (Kh P (jS P G call ops A0 H0 j).1 o) (jS P G call ops A0 H0 j).2 (jS P G call ops A0 H0 (j + 1)).2 p ↔ jZ P (jS P G call ops A0 H0) ops p) := by
   intro p hpm hm;obtain ⟨h1, h2, h3⟩ := hp p hpm;unfold ZJ jZ
   by_cases hlt : p.2 < p.1
   ·have e1 : p.1 = j := by omega
    obtain ⟨o2, _, hg⟩ := hh p.2 (by omega);rw [if_pos hlt]
    constructor
    ·intro ⟨a, _⟩ o' ho'
     rw [e1, ho] at ho';cases ho';obtain ⟨h, hg', e⟩ := a e1 (by omega);rw [hg] at hg';cases hg';rw [e1];exact e
    ·intro a
     refine ⟨fun _ _ => ⟨_, hg, ?_⟩, fun e => absurd e (by omega)⟩;have := a o (by rw [e1]; exact ho);rw [e1] at this;exact this
   ·have e2 : p.2 = j := by omega
    obtain ⟨o1, ho1, hg⟩ := hh p.1 (by omega);rw [if_neg hlt, e2]
    constructor
    ·intro ⟨_, a⟩ o' ho'
     rw [ho1] at ho';cases ho';obtain ⟨h, hg', e⟩ := a rfl (by omega);rw [hg] at hg';cases hg';exact e
    ·intro a
     refine ⟨fun e => absurd e (by omega), fun _ _ => ⟨_, hg, a o1 ho1⟩⟩
  have out : ∀ p ∈ pairs, max p.1 p.2 ≠ j → ZJ j hist (Kh P (jS P G call ops A0 H0 j).1 o) (jS P G call ops A0 H0 j).2 (jS P G call ops A0 H0 (j + 1)).2 p := by
   intro p hpm hm;exact ⟨fun h1 h2 => absurd hm (by omega), fun h1 h2 => absurd hm (by omega)⟩
  constructor
  ·rintro ⟨a, b, c⟩
   refine ⟨fun p hpm hm => ?_, c⟩
   by_cases e : max p.1 p.2 = j
   ·exact (key p hpm e).1 (a p hpm)
   ·exact b p hpm (by omega)
  ·rintro ⟨a, c⟩
   refine ⟨fun p hpm => ?_, fun p hpm hm => a p hpm (by omega), c⟩
   by_cases e : max p.1 p.2 = j
   ·exact (key p hpm e).2 (a p hpm (by omega))
   ·exact out p hpm e
theorem Oi {P : Program} {G : List Nat} {call : bK} {ops : Array Oper} {pairs : List (Nat × Nat)} : ∀ (l : List Oper) (j : Nat) (hist : List ((AH → Option Value) × AH)) (A : List Value) (H : AH) (r : List Value × AH), qC P G call ops pairs l j hist A H = some r → dm P G call ops l A H = some r := by
 intro l
 induction l with
 | nil => intro j hist A H r h; exact h
 | cons o l ih =>
  intro j hist A H r h;simp only [qC] at h;obtain ⟨s, hs, h⟩ := aI.1 h;simp only [dm];rw [hs];exact ih _ _ _ _ _ (Sg.1 h).2
theorem JL {ops : Array Oper} : ∀ p ∈ d5 ops.toList, p.1 < ops.size ∧ p.2 < ops.size ∧ p.1 ≠ p.2 := by
 intro p hp;unfold d5 at hp;simp only [List.mem_flatMap, List.mem_filter, List.mem_map] at hp;obtain ⟨x, ⟨hx, hx2⟩, y, ⟨hy, hy2⟩, rfl⟩ := hp;have hx := List.mem_zipIdx hx;have hy := List.mem_zipIdx hy;simp only [beq_iff_eq] at hx2;simp only [Bool.and_eq_true, beq_iff_eq] at hy2;refine ⟨by have := hx.2.1; simpa using this, by have := hy.2.1; simpa using this, ?_⟩;intro e;simp only at e;have e3 := hy2.1.1;have ex := hx.2.2;have ey := hy.2.2;simp only [e, Nat.sub_zero] at ex ey
 have : x.1 = y.1 := by rw [ex, ey]
 rw [this, e3] at hx2;cases hx2
theorem Ox {P : Program} {G : List Nat} {call : bK} {ops : Array Oper} {pairs : List (Nat × Nat)} (hp : ∀ p ∈ pairs, p.1 < ops.size ∧ p.2 < ops.size ∧ p.1 ≠ p.2) (A : List Value) (H : AH) :
 Lt (∀ q ∈ pairs, jZ P (jS P G call ops A H) ops q) (dm P G call ops ops.toList A H) = qC P G call ops pairs ops.toList 0 [] A H := by
 cases hx : dm P G call ops ops.toList A H with
 | none =>
  cases hy : qC P G call ops pairs ops.toList 0 [] A H with
  | none => unfold Lt; split <;> rfl
  | some r => have := Oi _ _ _ _ _ _ hy; rw [hx] at this; cases this
 | some r0 =>
  have hi := VL hx hp ops.toList 0 [] rfl rfl (fun i hi => absurd hi (by omega));simp only [ahX] at hi
  cases hy : qC P G call ops pairs ops.toList 0 [] A H with
  | none =>
   cases hz : Lt (∀ q ∈ pairs, jZ P (jS P G call ops A H) ops q) (some r0) with
   | none => rfl
   | some r =>
    obtain ⟨h1, h2⟩ := ol hz;have := (hi r0).2 ⟨fun p hpm _ => h1 p hpm, rfl⟩;rw [hy] at this; cases this
  | some r =>
   obtain ⟨h1, h2⟩ := (hi r).1 hy;rw [kH (fun p hpm => h1 p hpm (by omega)), h2]
noncomputable abbrev Ih (P : Program) (G : List Nat) (call : bK) (ops : Array Oper) (draw : Bool) (A : List Value) (H : AH) (k : List Value → AH → Option R) : Option R :=
 match draw with
 | false => aaK P G call ops ops.toList A H k
 | true => match tQ ops.toList with
  | false => none
  | true => match d5 ops.toList with
   | [] => aaK P G call ops ops.toList A H k
   | p :: ps => Sa P G call ops (p :: ps) ops.toList 0 [] A H k
theorem Ow (P : Program) (G : List Nat) (call : bK) (ops : Array Oper) (draw : Bool) (A : List Value) (H : AH) (k : List Value → AH → Option R) : Ih P G call ops draw A H k = (gn P G call ops draw A H).bind fun s => k s.1 s.2 := by
 unfold Ih gn mW
 cases draw with
 | false => exact Sb ..
 | true =>
  simp only
  cases tQ ops.toList with
  | false => rfl
  | true =>
   simp only
   cases hl : d5 ops.toList with
   | nil => exact Sb ..
   | cons p ps =>
    simp only;rw [Ox (fun q hq => JL q (by rw [hl]; exact hq)), aaL]
def ajV (kn : List Value → AH → Option R) (kx : Nat → List Value → AH → Option R) (kr : List Value → AH → Option R) (r : AR) : Option R :=
 match r.1 with
 | .normal => kn r.2.1 r.2.2
 | .exit i => kx i r.2.1 r.2.2
 | .ret => kr r.2.1 r.2.2
noncomputable def jh (P : Program) (G : List Nat) (call : bK) (x : Code) (A : List Value) (H : AH) (kx : Nat → List Value → AH → Option R) (kr : List Value → AH → Option R) : Option R :=
 (pW (aZ P G call x) A H).bind (ajV (fun _ _ => none) kx kr)
noncomputable abbrev bf (P : Program) (G : List Nat) (call : bK) : Code → List Value → AH → (List Value → AH → Option R) → (Nat → List Value → AH → Option R) → (List Value → AH → Option R) → Option R
 | .skip, A, H, kn, _, _ => kn A H
 | .label _, A, H, kn, _, _ => kn A H
 | .region _ ops draw, A, H, kn, _, _ => Ih P G call ops draw A H kn
 | .seq x y, A, H, kn, kx, kr => bf P G call x A H (fun A H => bf P G call y A H kn kx kr) kx kr
 | .cond c x y, A, H, kn, kx, kr => match fR A c with
  | .bool true => bf P G call x A H kn kx kr
  | .bool false => bf P G call y A H kn kx kr
  | _ => none
 | .block id x, A, H, kn, kx, kr => bf P G call x A H kn (fun i A H => if i = id then kn A H else kx i A H) kr
 | .loop x, A, H, _, kx, kr => jh P G call x A H kx kr
 | .exit id, A, H, _, kx, _ => kx id A H
 | .ret, A, H, _, _, kr => kr A H
 | _, _, _, _, _, _ => none
theorem VJ {f : List Value → AH → Option AR} : ∀ {n : Nat} {A : List Value} {H : AH} {r : AR}, fv f n A H = some r → r.1 ≠ .normal := by
 intro n
 induction n with
 | zero => intro A H r h; cases h
 | succ n ih =>
  intro A H r h;simp only [fv] at h;obtain ⟨s, hs, h⟩ := aI.1 h
  split at h
  ·exact ih h
  ·rename_i e
   cases h;exact fun he => e he
theorem VK {f : List Value → AH → Option AR} {A : List Value} {H : AH} {r : AR} (h : pW f A H = some r) : r.1 ≠ .normal := by
 obtain ⟨n, hn⟩ := dl.1 h;exact VJ hn
theorem vk (P : Program) (G : List Nat) (call : bK) : ∀ (c : Code) (A : List Value) (H : AH) (kn : List Value → AH → Option R) (kx : Nat → List Value → AH → Option R) (kr : List Value → AH → Option R),
 bf P G call c A H kn kx kr = (aZ P G call c A H).bind (ajV kn kx kr) := by
 intro c
 induction c with
 | skip => intros; rfl
 | label => intros; rfl
 | exit => intros; rfl
 | ret => intros; rfl
 | region id ops draw =>
  intro A H kn kx kr;simp only [bf, aZ];rw [Ow, Option.bind_map]; rfl
 | seq x y ihx ihy =>
  intro A H kn kx kr;simp only [bf, aZ];rw [ihx, Option.bind_assoc]
  congr 1
  funext r
  obtain ⟨e, A1, H1⟩ := r
  cases e with
  | normal => simp only [ajV]; exact ihy ..
  | exit i => rfl
  | ret => rfl
 | cond c x y ihx ihy =>
  intro A H kn kx kr;simp only [bf, aZ]
  generalize fR A c = v
  cases v with
  | bool b => cases b <;> first | exact ihx .. | exact ihy ..
  | _ => rfl
 | block id x ih =>
  intro A H kn kx kr;simp only [bf, aZ];rw [ih, Option.bind_map]
  congr 1
  funext r
  obtain ⟨e, A1, H1⟩ := r
  cases e with
  | normal => rfl
  | exit i =>
   simp only [ajV, Function.comp]
   split <;> rfl
  | ret => rfl
 | loop x ih =>
  intro A H kn kx kr;simp only [bf, aZ, jh]
  cases h : pW (aZ P G call x) A H with
  | none => rfl
  | some r =>
   simp only [bP];have := VK h;obtain ⟨e, A1, H1⟩ := r
   cases e with
   | normal => exact absurd rfl this
   | exit i => rfl
   | ret => rfl
 | rangeFunc => intros; rfl
 | scope => intros; rfl
 | goto => intros; rfl
 | refuse => intros; rfl
theorem aaH (P : Program) (G : List Nat) (call : bK) (x : Code) (A : List Value) (H : AH) (kx : Nat → List Value → AH → Option R) (kr : List Value → AH → Option R) :
 jh P G call x A H kx kr = bf P G call x A H (fun A H => jh P G call x A H kx kr) kx kr := by
 rw [vk];unfold jh;rw [ZX, Option.bind_assoc]
 congr 1
 funext r
 obtain ⟨e, A1, H1⟩ := r
 cases e <;> rfl
abbrev tA (P : Program) (A : List Value) (H : AH) : List ResultVar → (List Value → Option R) → Option R
 | [], k => k []
 | .tmp t :: rs, k => tA P A H rs fun vs => k (A[t]?.getD undef :: vs)
 | .cell a t :: rs, k => tb (fP P t) fun g => match g with
  | some n => (aA n (A[a]?.getD undef) H).bind fun v => tA P A H rs fun vs => k (v :: vs)
  | none => (au (A[a]?.getD undef) H).bind fun v => tA P A H rs fun vs => k (v :: vs)
theorem aaI (P : Program) (A : List Value) (H : AH) : ∀ (rs : List ResultVar) (k : List Value → Option R), tA P A H rs k = (tw P A H rs).bind k := by
 intro rs
 induction rs with
 | nil => intro k; rfl
 | cons r rs ih =>
  intro k;simp only [tw, Option.bind_assoc, bP]
  cases r with
  | tmp t =>
   simp only [tA, lF, bP];rw [ih]
  | cell a t =>
   simp only [tA, lF, Option.bind_assoc, NP]
   congr 1
   funext g
   cases g <;> (simp only; congr 1; funext v; rw [ih])
end
def tup : List Value → Value
 | [v] => v
 | vs => .tuple vs.toArray
abbrev dP (P : Program) (rs : List ResultVar) (A : List Value) (H : AH) : Option (Value × AH) := tA P A H rs fun vs => some (tup vs, H)
noncomputable def R8 (P : Program) (G : List Nat) (call : bK) (n : Nat) (rs : List ResultVar) (c : Code) (args : List Value) (H : AH) : Option (Value × AH) :=
 bf P G call c (args ++ List.replicate (n - args.length) undef) H (dP P rs) (fun _ _ _ => none) (dP P rs)
theorem R9 (P : Program) (rs : List ResultVar) (A : List Value) (H : AH) : dP P rs A H = (jf P A H rs).map (·, H) := by
 unfold dP jf;rw [aaI, Option.map_map]
 cases tw P A H rs with
 | none => rfl
 | some vs =>
  simp only [bP, fp, Function.comp]
  congr 2
theorem aaG (P : Program) (G : List Nat) (call : bK) (n : Nat) (rs : List ResultVar) (c : Code) (args : List Value) (H : AH) : R8 P G call n rs c args H = pV P G call n rs c args H := by
 unfold R8 pV;rw [vk]
 congr 1
 funext r
 obtain ⟨e, A1, H1⟩ := r
 cases e with
 | normal => exact R9 ..
 | exit i => rfl
 | ret => exact R9 ..
def bM (fn : Func) : Code := fn.body.getD .skip
theorem Oh {P : Program} {G : List Nat} {f : Nat} {fn : Func} (hf : P.funcs[f]? = some fn) (hb : fn.body.isSome = true) (hn : (fn.name == "runtime.NumGoroutine") = false) (hd : la (bM fn) = none) {args : List Value} {H : AH} {r : Value × AH}
 (h : R8 P G (aF P G) fn.ntmps fn.results.toList (bM fn) args H = some r) : aF P G f args H = some r := by
 cases hc : fn.body with
 | none => rw [hc] at hb; cases hb
 | some c =>
  rw [aaG] at h;unfold bM at h hd;rw [hc] at h hd;exact aqD hf hc (by simpa using hn) hd h
def Code.sub : Code → List Nat → Code
 | c, [] => c
 | .seq x _, 0 :: p => Code.sub x p
 | .seq _ y, 1 :: p => Code.sub y p
 | .cond _ x _, 2 :: p => Code.sub x p
 | .cond _ _ y, 3 :: p => Code.sub y p
 | .block _ x, 4 :: p => Code.sub x p
 | .loop x, 5 :: p => Code.sub x p
 | _, _ => .skip
def yv : Value → Option Bool
 | .bool b => some b
 | _ => none
def aV {R : Type} (cs : List Value) (H : AH) (k : Value → AH → Option R) : Option R := k (.pointer (some ⟨H.size, 0, none⟩)) (H.push (.cells false cs))
def aq2 {R : Type} (len e : Nat) (cs : List Value) (H : AH) (k : Value → AH → Option R) : Option R := k (.slice (some ⟨H.size, 0, none⟩) len e) (H.push (.cells false cs))
def FU {R : Type} (H : AH) (k : Value → AH → Option R) : Option R := k (.map (some H.size)) (H.push (.map [] 0))
def jd {R : Type} (x : Value) (k : Value → Option R) : Option R :=
 match x with
 | .slice _ n _ => k (.int .i64 n)
 | _ => none
def alD (x : Value) : Option Value :=
 match x with
 | .slice _ _ _ => qw x
 | _ => none
def av {R : Type} (c : Value) (x y : Option R) : Option R :=
 match c with
 | .bool true => x
 | .bool false => y
 | _ => none
def G3 {α : Type} (y : Option Bool) (want : Bool) (a b : Option α) : Option α :=
 match y == some want with
 | true => a
 | false => b
theorem Qo (a b : Value) : bd (.bool true) a b = some a := rfl
theorem af6 (a b : Value) : bd (.bool false) a b = some b := rfl
abbrev vi (n : Int) : Value := .int .i64 n
abbrev vw (n : Int) : Value := .int .u64 n
abbrev vu (n : Nat) : Value := .int .u64 (n : Int)
abbrev vb (b : Bool) : Value := .bool b
inductive Stp where
 | n
 | f (k : Nat)
 | i (e : Nat) (v : Value)
 | a (len e : Nat) (v : Value)
def ad {R : Type} : List Stp → Value → (Value → Option R) → Option R
 | [], a, k => k a
 | .n :: p, a, k => (uy a).bind fun a => ad p a k
 | .f o :: p, a, k => (FX o a).bind fun a => ad p a k
 | .i e v :: p, a, k => (oP e a v).bind fun a => ad p a k
 | .a len e v :: p, a, k => (jQ len e a v).bind fun a => ad p a k
def ld {R : Type} (p : List Stp) (x : Value) (H : AH) (k : Value → Option R) : Option R := ad p x fun a => (au a H).bind k
def ldN {R : Type} (n : Nat) (p : List Stp) (x : Value) (H : AH) (k : Value → Option R) : Option R := ad p x fun a => (aA n a H).bind k
def st {R : Type} (n : Nat) (p : List Stp) (x v : Value) (H : AH) (k : AH → Option R) : Option R := ad p x fun a => (cG n a v H).bind k
def gB (c : Value) (want : Bool) (e : Option Value) : Option Value := G3 (yv c) want (e.bind some) (some undef)
def gV (c : Value) (want : Bool) (e : Value) : Option Value := G3 (yv c) want (some e) (some undef)
def gE (c : Value) (want : Bool) (H : AH) (e : Option (Value × AH)) : Option (Value × AH) := G3 (yv c) want e (some (undef, H))
def FQ {R : Type} (c : Value) (want : Bool) : List Stp → Value → (Value → Option R) → Option R
 | [], a, k => k a
 | .n :: p, a, k => (gB c want (uy a)).bind fun a => FQ c want p a k
 | .f o :: p, a, k => (gB c want (FX o a)).bind fun a => FQ c want p a k
 | .i e v :: p, a, k => (gB c want (oP e a v)).bind fun a => FQ c want p a k
 | .a len e v :: p, a, k => (gB c want (jQ len e a v)).bind fun a => FQ c want p a k
def gk {R : Type} (c : Value) (want : Bool) (p : List Stp) (x : Value) (H : AH) (k : Value → Option R) : Option R := FQ c want p x fun a => (gB c want (au a H)).bind k
def oF {R : Type} (c : Value) (want : Bool) (n : Nat) (p : List Stp) (x : Value) (H : AH) (k : Value → Option R) : Option R := FQ c want p x fun a => (gB c want (aA n a H)).bind k
def ic {R : Type} (ps : List (Nat × Nat)) (zero : List Value) (xs : List (Nat × Value)) (k : Value → Option R) : Option R := (du (fun i => ps[i]?) zero xs).bind fun cs => k (.agg cs.toArray)
def alK (e : Nat) (i : Nat) : Option (Nat × Nat) := some (i * e, e)
def FD {R : Type} (len e : Nat) (zero : List Value) (xs : List (Nat × Value)) (H : AH) (k : Value → AH → Option R) : Option R := (du (alK e) (List.replicate len zero).flatten xs).bind fun cs => aq2 len e cs H k
def i5 (D : Nat) (A A' : List Value) : Prop := A.length = A'.length ∧ ∀ t, D.testBit t = false → A[t]? = A'[t]?
def jV (D : Nat) : Nat → List Value → List Value
 | _, [] => []
 | i, v :: vs => (match D.testBit i with | true => undef | false => v) :: jV D (i + 1) vs
def clear (D : Nat) (A : List Value) : List Value := jV D 0 A
theorem xE (D : Nat) : ∀ (A : List Value) (i : Nat), (jV D i A).length = A.length := by
 intro A
 induction A with
 | nil => intro i; rfl
 | cons v vs ih => intro i; simp [jV, ih]
theorem FG (D : Nat) : ∀ (A : List Value) (i t : Nat), D.testBit (i + t) = false → (jV D i A)[t]? = A[t]? := by
 intro A
 induction A with
 | nil => intro i t _; rfl
 | cons v vs ih =>
  intro i t h
  cases t with
  | zero => simp only [Nat.add_zero] at h; simp [jV, h]
  | succ t => simp only [jV, List.getElem?_cons_succ]; exact ih (i + 1) t (by rw [show i + 1 + t = i + (t + 1) from by omega]; exact h)
theorem i8 (D : Nat) (A : List Value) : i5 D A (clear D A) := ⟨(xE D A 0).symm, fun t h => (FG D A 0 t (by simpa using h)).symm⟩
def ar {R : Type} (D : Nat) (k : List Value → AH → Option R) : Prop := ∀ A A' H, i5 D A A' → k A H = k A' H
def opr (D : Nat) : Operand → Bool
 | .tmp t => !D.testBit t
 | _ => true
def RJ (D : Nat) : Option Tmp → Nat
 | some d => match D.testBit d with | true => D ^^^ 2 ^ d | false => D
 | none => D
theorem amB {D : Nat} {d : Option Tmp} {t : Nat} (h : D.testBit t = false) : (RJ D d).testBit t = false := by
 unfold RJ
 split
 ·split
  ·rename_i hd
   rw [Nat.testBit_xor, h, Nat.testBit_two_pow];simp;intro e;subst e; rw [h] at hd; cases hd
  ·exact h
 ·exact h
theorem amC {D : Nat} {d : Option Tmp} {t : Nat} (h : (RJ D d).testBit t = false) (hd : d ≠ some t) : D.testBit t = false := by
 unfold RJ at h
 split at h
 ·rename_i d
  split at h
  ·rename_i hb
   rw [Nat.testBit_xor, Nat.testBit_two_pow] at h;have : ¬ d = t := fun e => hd (by rw [e])
   simpa [this] using h
  ·exact h
 ·exact h
def uw (D : Nat) (ops : Array Oper) (o : Oper) : Bool :=
 o.op.operands.toList.all (opr D) && match o.guard with
 | none => true
 | some g => match (ops[g.1]?).bind (·.dst) with
  | some t => !D.testBit t
  | none => true
def oO (ops : Array Oper) : List Oper → Nat → Option Nat
 | [], D => some D
 | o :: rest, D => match uw D ops o with
  | true => oO ops rest (RJ D o.dst)
  | false => none
def s4 : Code → Nat → Option Nat
 | .skip, D => some D
 | .label _, D => some D
 | .region _ ops _, D => oO ops ops.toList D
 | .seq x y, D => match s4 x D with
  | some D1 => match s4 y D1 with
   | some D2 => some D2
   | none => none
  | none => none
 | .cond c x y, D => match opr D c with
  | true => match s4 x D, s4 y D with
   | some D1, some D2 => some (D1 ||| D2)
   | _, _ => none
  | false => none
 | .block _ x, D => match s4 x D with
  | some _ => some D
  | none => none
 | .loop x, D => match s4 x D with
  | some _ => some D
  | none => none
 | .exit _, _ => some 0
 | .ret, _ => some 0
 | _, _ => none
section
variable {P : Program} {G : List Nat} {call : bK} {R : Type}
theorem i5.mono {D D' : Nat} {A A' : List Value} (h : i5 D A A') (hm : ∀ t, D'.testBit t = false → D.testBit t = false) : i5 D' A A' := ⟨h.1, fun t ht => h.2 t (hm t ht)⟩
theorem i5.ev {D : Nat} {A A' : List Value} (h : i5 D A A') {x : Operand} (hx : opr D x = true) : fR A x = fR A' x := by
 cases x with
 | tmp t => simp only [opr, Bool.not_eq_true'] at hx; simp only [fR]; rw [h.2 t hx]
 | _ => rfl
theorem i5.put {D : Nat} {A A' : List Value} (h : i5 D A A') (d : Option Tmp) (v : Value) : i5 (RJ D d) (lE A d v) (lE A' d v) := by
 refine ⟨by rw [mX, mX, h.1], fun t ht => ?_⟩
 by_cases hd : d = some t
 ·subst hd; rw [Bd, Bd, h.1]
 ·rw [vd hd, vd hd]; exact h.2 t (amC ht hd)
theorem afS {ops : Array Oper} : ∀ {l : List Oper} {D D' : Nat}, oO ops l D = some D' → ∀ t, D.testBit t = false → D'.testBit t = false := by
 intro l
 induction l with
 | nil => intro D D' h t ht; simp only [oO] at h; cases h; exact ht
 | cons o l ih =>
  intro D D' h t ht;simp only [oO] at h
  split at h
  ·exact ih h t (amB ht)
  ·cases h
theorem JS : ∀ {c : Code} {D D' : Nat}, s4 c D = some D' → ∀ t, D.testBit t = false → D'.testBit t = false := by
 intro c
 induction c with
 | skip => intro D D' h t ht; simp only [s4] at h; cases h; exact ht
 | label l => intro D D' h t ht; simp only [s4] at h; cases h; exact ht
 | region id ops draw => intro D D' h; simp only [s4] at h; exact afS h
 | seq x y ihx ihy =>
  intro D D' h t ht;simp only [s4] at h
  split at h
  ·rename_i D1 h1
   split at h
   ·rename_i D2 h2; cases h; exact ihy h2 t (ihx h1 t ht)
   ·cases h
  ·cases h
 | cond c x y ihx ihy =>
  intro D D' h t ht;simp only [s4] at h
  split at h
  ·split at h
   ·rename_i D1 D2 h1 h2; cases h
    rw [Nat.testBit_or, ihx h1 t ht, ihy h2 t ht]; rfl
   ·cases h
  ·cases h
 | block id x ih => intro D D' h t ht; simp only [s4] at h; split at h <;> cases h; exact ht
 | loop x ih => intro D D' h t ht; simp only [s4] at h; split at h <;> cases h; exact ht
 | exit id => intro D D' h t ht; simp only [s4] at h; cases h; simp
 | ret => intro D D' h t ht; simp only [s4] at h; cases h; simp
 | rangeFunc => intro D D' h; simp [s4] at h
 | scope => intro D D' h; simp [s4] at h
 | goto => intro D D' h; simp [s4] at h
 | refuse => intro D D' h; simp [s4] at h
inductive Both (D : Nat) : Option (List Value × AH) → Option (List Value × AH) → Prop
 | no : Both D none none
 | yes {A A' : List Value} (H : AH) (h : i5 D A A') : Both D (some (A, H)) (some (A', H))
theorem Zg {ops : Array Oper} {o : Oper} {D : Nat} (ho : uw D ops o = true) {A A' : List Value} (h : i5 D A A') (H : AH) : Both (RJ D o.dst) (gG P G call ops o A H) (gG P G call ops o A' H) := by
 unfold uw at ho;simp only [Bool.and_eq_true] at ho;have hev : ∀ x ∈ o.op.operands.toList, fR A x = fR A' x := fun x hx => h.ev (List.all_eq_true.1 ho.1 x hx)
 have hw : Region.wanted o (dO ops A) = Region.wanted o (dO ops A') := by
  unfold Region.wanted
  cases hg : o.guard with
  | none => rfl
  | some g =>
   obtain ⟨g, want⟩ := g;rw [hg] at ho
   have hy : dO ops A g = dO ops A' g := by
    unfold dO
    cases hd : (ops[g]?).bind (·.dst) with
    | none => rfl
    | some t =>
     have h2 := ho.2;simp only [hd, Bool.not_eq_true'] at h2;simp only [bP];rw [h.2 t h2]
   simp only [hy]
 unfold gG;rw [hw, og hev H]
 split
 ·split
  ·cases fe P call (fR A') o H with
   | none => exact .no
   | some r => exact .yes r.2 (h.put o.dst r.1)
  ·exact .yes H (h.put o.dst undef)
 ·exact .no
theorem wu {ops : Array Oper} : ∀ {l : List Oper} {D D' : Nat}, oO ops l D = some D' → ∀ {A A' : List Value}, i5 D A A' → ∀ H, Both D' (dm P G call ops l A H) (dm P G call ops l A' H) := by
 intro l
 induction l with
 | nil => intro D D' h A A' hA H; simp only [oO] at h; cases h; exact .yes H hA
 | cons o l ih =>
  intro D D' h A A' hA H;simp only [oO] at h
  split at h
  ·rename_i ho
   simp only [dm];have := Zg (P := P) (G := G) (call := call) ho hA H
   generalize gG P G call ops o A H = x at this
   generalize gG P G call ops o A' H = y at this
   cases this with
   | no => exact .no
   | yes H1 hA1 => exact ih h hA1 H1
  ·cases h
theorem Qg {ops : Array Oper} : ∀ {l : List Oper} {D D' : Nat}, oO ops l D = some D' → ∀ i, ∃ Di, oO ops (l.take i) D = some Di ∧ ∀ o, l[i]? = some o → uw Di ops o = true := by
 intro l
 induction l with
 | nil => intro D D' h i; exact ⟨D, by cases i <;> rfl, fun o ho => by simp at ho⟩
 | cons o l ih =>
  intro D D' h i;simp only [oO] at h
  split at h
  ·rename_i ho
   cases i with
   | zero => exact ⟨D, rfl, fun o' ho' => by simp at ho'; subst ho'; exact ho⟩
   | succ i =>
    obtain ⟨Di, h1, h2⟩ := ih h i;refine ⟨Di, ?_, fun o' ho' => h2 o' (by simpa using ho')⟩;simp only [List.take_succ_cons, oO, ho];exact h1
  ·cases h
theorem V0 {ops : Array Oper} {D D' : Nat} (h : oO ops ops.toList D = some D') {A A' : List Value} (hA : i5 D A A') (H : AH) : Both D' (mW P G call ops A H) (mW P G call ops A' H) := by
 unfold mW
 split
 ·exact .no
 ·split
  ·exact wu h hA H
  ·rename_i p ps hp
   have hb := wu (P := P) (G := G) (call := call) h hA H
   have key : dm P G call ops ops.toList A H ≠ none → ((∀ q ∈ p :: ps, jZ P (jS P G call ops A H) ops q) ↔ ∀ q ∈ p :: ps, jZ P (jS P G call ops A' H) ops q) := by
    intro hne
    have hst : ∀ i, ∃ Di, i5 Di (jS P G call ops A H i).1 (jS P G call ops A' H i).1 ∧ (jS P G call ops A H i).2 = (jS P G call ops A' H i).2 ∧ ∀ o, ops[i]? = some o → uw Di ops o = true := by
     intro i;obtain ⟨Di, h1, h2⟩ := Qg h i;have hbi := wu (P := P) (G := G) (call := call) h1 hA H
     cases hx : dm P G call ops ops.toList A H with
     | none => exact absurd hx hne
     | some r =>
      have h3 := xn hx i;rw [h3] at hbi;unfold jS at hbi ⊢;rw [h3] at hbi ⊢
      generalize dm P G call ops (ops.toList.take i) A' H = y at hbi
      simp only [Option.getD_some] at hbi ⊢
      generalize hz : jS P G call ops A H i = z at hbi
      unfold jS at hz;rw [h3] at hz;simp only [Option.getD_some] at hz
      cases hbi with
      | yes H1 hA1 =>
       exact ⟨Di, hA1, rfl, fun o ho => h2 o (by simpa using ho)⟩
    have one : ∀ q, jZ P (jS P G call ops A H) ops q ↔ jZ P (jS P G call ops A' H) ops q := by
     intro q;unfold jZ;obtain ⟨D1, a1, e1, o1⟩ := hst q.1;obtain ⟨D2, a2, e2, o2⟩ := hst (if q.2 < q.1 then q.2 else q.2 + 1)
     constructor
     ·intro hl o ho
      have hev : ∀ x ∈ o.op.operands.toList, fR (jS P G call ops A H q.1).1 x = fR (jS P G call ops A' H q.1).1 x := fun x hx => a1.ev (by
       have := o1 o ho;unfold uw at this;simp only [Bool.and_eq_true] at this
       exact List.all_eq_true.1 this.1 x hx)
      have := hl o ho;rw [sB hev, sB hev, e1, e2] at this;exact this
     ·intro hl o ho
      have hev : ∀ x ∈ o.op.operands.toList, fR (jS P G call ops A H q.1).1 x = fR (jS P G call ops A' H q.1).1 x := fun x hx => a1.ev (by
       have := o1 o ho;unfold uw at this;simp only [Bool.and_eq_true] at this
       exact List.all_eq_true.1 this.1 x hx)
      rw [sB hev, sB hev, e1, e2];exact hl o ho
    exact ⟨fun hl q hq => (one q).1 (hl q hq), fun hl q hq => (one q).2 (hl q hq)⟩
   have hn : dm P G call ops ops.toList A H = none → dm P G call ops ops.toList A' H = none := by
    intro e; rw [e] at hb; generalize dm P G call ops ops.toList A' H = y at hb; cases hb; rfl
   by_cases hne : dm P G call ops ops.toList A H = none
   ·rw [hne, hn hne]
    unfold Lt
    have : ∀ (c : Prop) [Decidable c], (if c then (none : Option (List Value × AH)) else none) = none := fun c _ => by split <;> rfl
    rw [this, this]; exact .no
   ·unfold Lt
    by_cases hc : ∀ q ∈ p :: ps, jZ P (jS P G call ops A H) ops q
    ·rw [if_pos hc, if_pos ((key hne).1 hc)]; exact hb
    ·rw [if_neg hc, if_neg (fun h => hc ((key hne).2 h))]; exact .no
inductive BothR (D D' : Nat) : Option AR → Option AR → Prop
 | no : BothR D D' none none
 | normal {A A' : List Value} (H : AH) (h : i5 D' A A') : BothR D D' (some (.normal, A, H)) (some (.normal, A', H))
 | exit (i : Nat) {A A' : List Value} (H : AH) (h : i5 D A A') : BothR D D' (some (.exit i, A, H)) (some (.exit i, A', H))
 | ret {A A' : List Value} (H : AH) (h : i5 D A A') : BothR D D' (some (.ret, A, H)) (some (.ret, A', H))
theorem Gn : ∀ {c : Code} {D D' : Nat}, s4 c D = some D' → ∀ {A A' : List Value}, i5 D A A' → ∀ H, BothR D D' (aZ P G call c A H) (aZ P G call c A' H) := by
 intro c
 induction c with
 | skip => intro D D' h A A' hA H; simp only [s4] at h; cases h; exact .normal H hA
 | label l => intro D D' h A A' hA H; simp only [s4] at h; cases h; exact .normal H hA
 | exit id => intro D D' h A A' hA H; exact .exit id H hA
 | ret => intro D D' h A A' hA H; exact .ret H hA
 | region id ops draw =>
  intro D D' h A A' hA H;simp only [s4] at h;simp only [aZ]
  have hb : Both D' (gn P G call ops draw A H) (gn P G call ops draw A' H) := by
   cases draw with
   | true => exact V0 h hA H
   | false => exact wu h hA H
  generalize gn P G call ops draw A H = x at hb
  generalize gn P G call ops draw A' H = y at hb
  cases hb with
  | no => exact .no
  | yes H1 hA1 => exact .normal H1 hA1
 | seq x y ihx ihy =>
  intro D D' h A A' hA H;simp only [s4] at h
  split at h
  ·rename_i D1 h1
   split at h
   ·rename_i D2 h2
    cases h;simp only [aZ];have hb := ihx h1 hA H
    generalize aZ P G call x A H = u at hb
    generalize aZ P G call x A' H = v at hb
    cases hb with
    | no => exact .no
    | normal H1 hA1 =>
     have hb2 := ihy h2 hA1 H1;simp only [bP]
     rename_i A1 A1'
     generalize aZ P G call y A1 H1 = u at hb2
     generalize aZ P G call y A1' H1 = v at hb2
     cases hb2 with
     | no => exact .no
     | normal H2 hA2 => exact .normal H2 hA2
     | exit i H2 hA2 => exact .exit i H2 (hA2.mono (fun t ht => JS h1 t ht))
     | ret H2 hA2 => exact .ret H2 (hA2.mono (fun t ht => JS h1 t ht))
    | exit i H1 hA1 => exact .exit i H1 hA1
    | ret H1 hA1 => exact .ret H1 hA1
   ·cases h
  ·cases h
 | cond c x y ihx ihy =>
  intro D D' h A A' hA H;simp only [s4] at h
  split at h
  ·rename_i hc
   split at h
   ·rename_i D1 D2 h1 h2
    cases h;simp only [aZ];rw [hA.ev hc]
    have m1 : ∀ t, (D1 ||| D2).testBit t = false → D1.testBit t = false := fun t ht => by rw [Nat.testBit_or, Bool.or_eq_false_iff] at ht; exact ht.1
    have m2 : ∀ t, (D1 ||| D2).testBit t = false → D2.testBit t = false := fun t ht => by rw [Nat.testBit_or, Bool.or_eq_false_iff] at ht; exact ht.2
    generalize fR A' c = v
    cases v with
    | bool b =>
     cases b with
     | true =>
      have hb := ihx h1 hA H;simp only
      generalize aZ P G call x A H = u at hb
      generalize aZ P G call x A' H = v at hb
      cases hb with
      | no => exact .no
      | normal H1 hA1 => exact .normal H1 (hA1.mono m1)
      | exit i H1 hA1 => exact .exit i H1 hA1
      | ret H1 hA1 => exact .ret H1 hA1
     | false =>
      have hb := ihy h2 hA H;simp only
      generalize aZ P G call y A H = u at hb
      generalize aZ P G call y A' H = v at hb
      cases hb with
      | no => exact .no
      | normal H1 hA1 => exact .normal H1 (hA1.mono m2)
      | exit i H1 hA1 => exact .exit i H1 hA1
      | ret H1 hA1 => exact .ret H1 hA1
    | _ => exact .no
   ·cases h
  ·cases h
 | block id x ih =>
  intro D D' h A A' hA H;simp only [s4] at h
  split at h <;> cases h
  rename_i D1 h1
  simp only [aZ];have hb := ih h1 hA H
  generalize aZ P G call x A H = u at hb
  generalize aZ P G call x A' H = v at hb
  cases hb with
  | no => exact .no
  | normal H1 hA1 => exact .normal H1 (hA1.mono (fun t ht => JS h1 t ht))
  | exit i H1 hA1 =>
   simp only [fp]
   split
   ·exact .normal H1 hA1
   ·exact .exit i H1 hA1
  | ret H1 hA1 => exact .ret H1 hA1
 | loop x ih =>
  intro D D' h A A' hA H;simp only [s4] at h
  split at h <;> cases h
  rename_i D1 h1
  simp only [aZ]
  have it : ∀ n {A A' : List Value} (H : AH), i5 D A A' → BothR D D (fv (aZ P G call x) n A H) (fv (aZ P G call x) n A' H) := by
   intro n
   induction n with
   | zero => intro A A' H _; exact .no
   | succ n ihn =>
    intro A A' H hA;simp only [fv];have hb := ih h1 hA H
    generalize aZ P G call x A H = u at hb
    generalize aZ P G call x A' H = v at hb
    cases hb with
    | no => exact .no
    | normal H1 hA1 => exact ihn H1 (hA1.mono (fun t ht => JS h1 t ht))
    | exit i H1 hA1 => exact .exit i H1 hA1
    | ret H1 hA1 => exact .ret H1 hA1
  cases hl : pW (aZ P G call x) A H with
  | some r =>
   obtain ⟨n, hn⟩ := dl.1 hl;have hb := it n H hA;rw [hn] at hb
   cases hm : fv (aZ P G call x) n A' H with
   | none => rw [hm] at hb; cases hb
   | some r' =>
    rw [dl.2 ⟨n, hm⟩];rw [hm] at hb;exact hb
  | none =>
   cases hl' : pW (aZ P G call x) A' H with
   | none => exact .no
   | some r' =>
    obtain ⟨n, hn⟩ := dl.1 hl';have hb := it n H hA;rw [hn] at hb
    cases hm : fv (aZ P G call x) n A H with
    | none => rw [hm] at hb; cases hb
    | some r => rw [dl.2 ⟨n, hm⟩] at hl; cases hl
 | rangeFunc => intro D D' h; simp [s4] at h
 | scope => intro D D' h; simp [s4] at h
 | goto => intro D D' h; simp [s4] at h
 | refuse => intro D D' h; simp [s4] at h
def F7 (D D' : Nat) : Bool := D ||| D' == D'
theorem Vq {D D' : Nat} (h : F7 D D' = true) : ∀ t, D'.testBit t = false → D.testBit t = false := by
 intro t ht;unfold F7 at h
 have e : D ||| D' = D' := by simpa using h
 rw [← e, Nat.testBit_or, Bool.or_eq_false_iff] at ht;exact ht.1
theorem ar.le {D D' : Nat} {k : List Value → AH → Option R} (h : ar D' k) (hs : F7 D D' = true) : ar D k := fun A A' H hA => h A A' H (hA.mono (Vq hs))
def yw (c : Code) (D D' : Nat) : Bool := match s4 c D with
 | some D1 => F7 D1 D'
 | none => false
theorem YD {c : Code} {D D' : Nat} {kn : List Value → AH → Option R} {kx : Nat → List Value → AH → Option R} {kr : List Value → AH → Option R} (h : yw c D D' = true) (hn : ar D' kn) (hx : ∀ i, ar D (kx i)) (hr : ar D kr) :
 ar D (fun A H => bf P G call c A H kn kx kr) := by
 intro A A' H hA;unfold yw at h
 split at h
 ·rename_i D1 h1
  simp only;rw [vk, vk];have hb := Gn (P := P) (G := G) (call := call) h1 hA H
  generalize aZ P G call c A H = u at hb
  generalize aZ P G call c A' H = v at hb
  cases hb with
  | no => rfl
  | normal H1 hA1 => exact hn _ _ H1 (hA1.mono (Vq h))
  | exit i H1 hA1 => exact hx i _ _ H1 hA1
  | ret H1 hA1 => exact hr _ _ H1 hA1
 ·cases h
theorem YE {c : Code} {D : Nat} {kx : Nat → List Value → AH → Option R} {kr : List Value → AH → Option R} (h : yw c D D = true) (hx : ∀ i, ar D (kx i)) (hr : ar D kr) :
 ar D (fun A H => jh P G call c A H kx kr) := by
 intro A A' H hA;unfold yw at h
 split at h
 ·rename_i D1 h1
  have hb := Gn (P := P) (G := G) (call := call) (c := .loop c) (D := D) (D' := D) (by simp only [s4, h1]) hA H;simp only [aZ] at hb;simp only [jh]
  generalize pW (aZ P G call c) A H = u at hb
  generalize pW (aZ P G call c) A' H = v at hb
  cases hb with
  | no => rfl
  | normal H1 hA1 => rfl
  | exit i H1 hA1 => exact hx i _ _ H1 hA1
  | ret H1 hA1 => exact hr _ _ H1 hA1
 ·cases h
def UB (D : Nat) (rs : List ResultVar) : Bool := rs.all fun r => match r with
 | .tmp t => !D.testBit t
 | .cell a _ => !D.testBit a
theorem YF {D : Nat} : ∀ {rs : List ResultVar} (_ : UB D rs = true) (k : List Value → AH → Option R), ar D (fun A H => tA P A H rs fun vs => k vs H) := by
 intro rs
 induction rs with
 | nil => intro _ k A A' H hA; rfl
 | cons r rs ih =>
  intro h k A A' H hA;unfold UB at h;simp only [List.all_cons, Bool.and_eq_true] at h
  cases r with
  | tmp t =>
   simp only [Bool.not_eq_true'] at h;simp only [tA];rw [hA.2 t h.1];exact ih h.2 (fun vs H => k ((A'[t]?.getD undef) :: vs) H) A A' H hA
  | cell a t =>
   simp only [Bool.not_eq_true'] at h;simp only [tA];rw [hA.2 a h.1, NP, NP]
   congr 1
   funext g
   cases g <;> (simp only; congr 1; funext v; exact ih h.2 (fun vs H => k (v :: vs) H) A A' H hA)
theorem agY {D : Nat} {rs : List ResultVar} (h : UB D rs = true) : ar D (dP P rs) := YF h fun vs H => some (tup vs, H)
theorem YG {D : Nat} : ar D (fun (_ : List Value) (_ : AH) => (none : Option R)) := fun _ _ _ _ => rfl
theorem QT {D id : Nat} {kn : List Value → AH → Option R} {kx : Nat → List Value → AH → Option R} (hn : ar D kn) (hx : ∀ i, ar D (kx i)) : ∀ i, ar D (fun A H => if i = id then kn A H else kx i A H) := by
 intro i A A' H hA;simp only
 split
 ·exact hn _ _ _ hA
 ·exact hx i _ _ _ hA
theorem EQ {D : Nat} {n : List Value → AH → Option R} (h : ar D n) : ar D (fun A H => n (clear D A) H) := by
 intro A A' H hA;simp only;rw [← h A (clear D A) H (i8 D A), ← h A' (clear D A') H (i8 D A')];exact h A A' H hA
variable {A : List Value} {H : AH} {kn : List Value → AH → Option R} {kx : Nat → List Value → AH → Option R} {kr : List Value → AH → Option R}
theorem ajT {c x y : Code} {e : Operand} (h : c = .cond e x y) : bf P G call c A H kn kx kr = av (fR A e) (bf P G call x A H kn kx kr) (bf P G call y A H kn kx kr) := by subst h; rfl
theorem Lo {c x : Code} {id : Nat} (h : c = .block id x) {D : Nat} {n : Nat → List Value → AH → Option R} (hn : n = fun i A H => if i = id then kn A H else kx i A H) (hD : ∀ i, ar D (n i)) :
 bf P G call c A H kn kx kr = bf P G call x A H kn (fun i A H => n i (clear D A) H) kr := by
 subst h
 have e : (fun i A H => n i (clear D A) H) = n := by
  funext i A H
  exact (hD i A (clear D A) H (i8 D A)).symm
 rw [e, hn]; try rfl
theorem alE {c x : Code} (h : c = .loop x) : bf P G call c A H kn kx kr = jh P G call x A H kx kr := by subst h; rfl
theorem P9 {x : Code} {D : Nat} {n : List Value → AH → Option R} (hn : n = fun A H => jh P G call x A H kx kr) (hD : ar D n) : jh P G call x A H kx kr = n (clear D A) H := by
 have := hD A (clear D A) H (i8 D A);rw [← this, hn]
theorem P8 {x : Code} {D : Nat} {n : List Value → AH → Option R} (hn : n = fun A H => jh P G call x A H kx kr) (hD : ar D n) :
 jh P G call x A H kx kr = bf P G call x A H (fun A H => n (clear D A) H) kx kr := by
 have e : (fun A H => n (clear D A) H) = n := by
  funext A H
  exact (hD A (clear D A) H (i8 D A)).symm
 rw [e, hn]; exact aaH ..
def Code.pre : Nat → Code → Code
 | 0, .seq x _ => x
 | k + 1, .seq x y => .seq x (Code.pre k y)
 | _, c => c
def Code.post : Nat → Code → Code
 | 0, .seq _ y => y
 | k + 1, .seq _ y => Code.post k y
 | _, _ => .skip
theorem ao5 : ∀ (k : Nat) (c : Code) (A : List Value) (H : AH), bf P G call c A H kn kx kr = bf P G call (Code.pre k c) A H (fun A H => bf P G call (Code.post k c) A H kn kx kr) kx kr := by
 intro k
 induction k with
 | zero => intro c A H; cases c <;> rfl
 | succ k ih =>
  intro c A H
  cases c with
  | seq x y =>
   have e : (fun A H => bf P G call y A H kn kx kr) = fun A H => bf P G call (Code.pre k y) A H (fun A H => bf P G call (Code.post k y) A H kn kx kr) kx kr := by
    funext A H; exact ih y A H
   show bf P G call x A H (fun A H => bf P G call y A H kn kx kr) kx kr = _;rw [e]; rfl
  | _ => rfl
variable {l T : Option R}
theorem ao6 {c : Code} {k D : Nat} {n : List Value → AH → Option R} (h0 : l = bf P G call c A H kn kx kr) (hn : n = fun A H => bf P G call (Code.post k c) A H kn kx kr) (hD : ar D n)
 (h1 : bf P G call (Code.pre k c) A H (fun A H => n (clear D A) H) kx kr = T) : l = T := by
 have e : (fun A H => n (clear D A) H) = n := by
  funext A H
  exact (hD A (clear D A) H (i8 D A)).symm
 rw [e, hn] at h1;exact h0.trans ((ao5 k c A H).trans h1)
theorem aaR {v v' : Value} {x x' y y' : Option R} (h : v = v') (hx : x = x') (hy : y = y') : av v x y = av v' x' y' := by rw [h, hx, hy]
theorem ajU {c x y : Code} {e : Operand} (h0 : l = bf P G call c A H kn kx kr) (h : c = .cond e x y) (h1 : av (fR A e) (bf P G call x A H kn kx kr) (bf P G call y A H kn kx kr) = T) : l = T := h0.trans ((ajT h).trans h1)
theorem aaF {c x : Code} {id D : Nat} {n : Nat → List Value → AH → Option R} (h0 : l = bf P G call c A H kn kx kr) (h : c = .block id x) (hn : n = fun i A H => if i = id then kn A H else kx i A H) (hD : ∀ i, ar D (n i))
 (h1 : bf P G call x A H kn (fun i A H => n i (clear D A) H) kr = T) : l = T := h0.trans ((Lo h hn hD).trans h1)
theorem alF {c x : Code} {D : Nat} {n : List Value → AH → Option R} (h0 : l = bf P G call c A H kn kx kr) (h : c = .loop x) (hn : n = fun A H => jh P G call x A H kx kr) (hD : ar D n) (h1 : n (clear D A) H = T) : l = T :=
 h0.trans ((alE h).trans ((P9 hn hD).trans h1))
theorem alG {x : Code} {D : Nat} {n : List Value → AH → Option R} (h0 : l = jh P G call x A H kx kr) (hn : n = fun A H => jh P G call x A H kx kr) (hD : ar D n)
 (h1 : bf P G call x A H (fun A H => n (clear D A) H) kx kr = T) : l = T := h0.trans ((P8 hn hD).trans h1)
end
abbrev OV := Option (Value × AH)
abbrev u : Value := undef
abbrev KK := List Value → AH → OV
abbrev KX := Nat → List Value → AH → OV
noncomputable abbrev CK (P : Program) (G : List Nat) (call : bK) (c : Code) (kn : KK) (kx : KX) (kr : KK) : KK := fun A H => bf P G call c A H kn kx kr
noncomputable abbrev CL (P : Program) (G : List Nat) (call : bK) (c : Code) (kx : KX) (kr : KK) : KK := fun A H => jh P G call c A H kx kr
abbrev BX (id : Nat) (kn : KK) (kx : KX) : KX := fun i A H => if i = id then kn A H else kx i A H
abbrev en (D : Nat) (n : KK) : KK := fun A H => n (clear D A) H
abbrev qz (D : Nat) (n : KX) : KX := fun i A H => n i (clear D A) H
def bA : KX := fun _ _ _ => none
def aqQ : Nat := 2 ^ 4096 - 1
def ls (l : List Value) (n : Nat) : List Value := l ++ List.replicate n u
section
variable {P : Program} {G : List Nat} {call : bK} {A : List Value} {H : AH} {kn : KK} {kx : KX} {kr : KK} {l T : OV}
theorem aB : ∀ i, ar aqQ (bA i) := fun _ => YG
theorem rf {rs : List ResultVar} {D : Nat} (h : UB D rs = true := by kernel_rfl) : ar D (dP P rs) := agY h
theorem rc {c : Code} {D Dn Dx Dr : Nat} (hn : ar Dn kn) (hx : ∀ i, ar Dx (kx i)) (hr : ar Dr kr) (h : (yw c D Dn && (F7 D Dx && F7 D Dr)) = true := by kernel_rfl) : ar D (CK P G call c kn kx kr) := by
 simp only [Bool.and_eq_true] at h;exact YD h.1 hn (fun i => (hx i).le h.2.1) (hr.le h.2.2)
theorem rl {c : Code} {D Dx Dr : Nat} (hx : ∀ i, ar Dx (kx i)) (hr : ar Dr kr) (h : (yw c D D && (F7 D Dx && F7 D Dr)) = true := by kernel_rfl) : ar D (CL P G call c kx kr) := by
 simp only [Bool.and_eq_true] at h;exact YE h.1 (fun i => (hx i).le h.2.1) (hr.le h.2.2)
theorem rb {D id Dn Dx : Nat} (hn : ar Dn kn) (hx : ∀ i, ar Dx (kx i)) (h : (F7 D Dn && F7 D Dx) = true := by kernel_rfl) : ∀ i, ar D (BX id kn kx i) := by
 simp only [Bool.and_eq_true] at h;exact QT (hn.le h.1) (fun i => (hx i).le h.2)
theorem cd {D : Nat} {n : KK} (h : ar D n) : ar D (en D n) := EQ h
theorem cx {D : Nat} {n : KX} (h : ∀ i, ar D (n i)) : ∀ i, ar D (qz D n i) := fun i => EQ (h i)
theorem pt {c : Code} {D : Nat} {n : KK} (h0 : l = bf P G call c A H kn kx kr) (k : Nat) (hD : ar D n) (h1 : bf P G call (Code.pre k c) A H (en D n) kx kr = T)
 (hn : n = fun A H => bf P G call (Code.post k c) A H kn kx kr := by kernel_rfl) : l = T := ao6 h0 hn hD h1
theorem ct {c : Code} (h0 : l = bf P G call c A H kn kx kr) (x y : Code) (e : Operand) {v : Value} {X Y : OV} (hx : bf P G call x A H kn kx kr = X) (hy : bf P G call y A H kn kx kr = Y)
 (h : c = .cond e x y := by kernel_rfl) (he : fR A e = v := by kernel_rfl) : l = av v X Y := ajU h0 h (aaR he hx hy)
theorem bt {c : Code} {D : Nat} {n : KX} (h0 : l = bf P G call c A H kn kx kr) (x : Code) (id : Nat) (hD : ∀ i, ar D (n i)) (h1 : bf P G call x A H kn (qz D n) kr = T)
 (h : c = .block id x := by kernel_rfl) (hn : n = fun i A H => if i = id then kn A H else kx i A H := by kernel_rfl) : l = T := aaF h0 h hn hD h1
theorem li {c : Code} {D : Nat} {n : KK} (h0 : l = bf P G call c A H kn kx kr) (x : Code) (hD : ar D n) (h1 : n (clear D A) H = T) (h : c = .loop x := by kernel_rfl)
 (hn : n = fun A H => jh P G call x A H kx kr := by kernel_rfl) : l = T := alF h0 h hn hD h1
theorem yl {x : Code} {D : Nat} {n : KK} (h0 : l = jh P G call x A H kx kr) (hD : ar D n) (h1 : bf P G call x A H (en D n) kx kr = T)
 (hn : n = fun A H => jh P G call x A H kx kr := by kernel_rfl) : l = T := alG h0 hn hD h1
theorem ht' {id : Nat} (h0 : l = BX id kn kx id A H) (h1 : kn A H = T) : l = T := by rw [h0, ← h1]; simp [BX]
theorem fo {f : Nat} {fn : Func} (hf : P.funcs[f]? = some fn) {args : List Value} {t : OV} {r : Value × AH} (e : R8 P G (aF P G) fn.ntmps fn.results.toList (bM fn) args H = t) (h : t = some r)
 (hb : fn.body.isSome = true := by kernel_rfl) (hn : (fn.name == "runtime.NumGoroutine") = false := by kernel_rfl) (hd : la (bM fn) = none := by kernel_rfl) : aF P G f args H = some r := Oh hf hb hn hd (e.trans h)
end
end Go.Proofs.YtflbeghglllknaaGreatDoor.Gst
namespace Go.Proofs.YtflbeghglllknaaGreatDoor.Gst
open Go Go.RowKit Go.ChangeShapes
set_option linter.unusedSimpArgs false
def f7 (H H' : AH) : Prop := H.size ≤ H'.size ∧ ∀ b, b < H.size → H'.get b = H.get b
theorem f7.refl (H : AH) : f7 H H := ⟨bB _, fun _ _ => rfl⟩
theorem f7.trans {A B C : AH} (h : f7 A B) (k : f7 B C) : f7 A C := ⟨fT h.1 k.1, fun b hb => by rw [k.2 b (by have := h.1; omega), h.2 b hb]⟩
theorem f7.push (H : AH) (o : AObj) : f7 H (H.push o) := ⟨by rw [AH.size_push]; omega, fun b hb => AH.get_push_old hb⟩
theorem f7.get {H H' : AH} (h : f7 H H') {b : Nat} {o : AObj} (hb : H.get b = some o) : H'.get b = some o := by rw [h.2 b (AH.lt_of_get hb)]; exact hb
inductive Ty where
 | int (k : IntKind)
 | bool
 | slice (t : Ty)
 | unit
 | pair (a b : Ty)
def Ty.w : Ty → Nat
 | .int _ | .bool | .slice _ => 1
 | .unit => 0
 | .pair a b => a.w + b.w
abbrev Ty.I : Ty → Type
 | .int _ => Int
 | .bool => Bool
 | .slice t => List t.I
 | .unit => Unit
 | .pair a b => a.I × b.I
inductive kZ {α : Type} (R : α → List Value → Prop) : List α → List Value → Prop
 | nil : kZ R [] []
 | cons {x : α} {l : List α} {c cs : List Value} (h : R x c) (k : kZ R l cs) : kZ R (x :: l) (c ++ cs)
def Abs (H : AH) : (t : Ty) → t.I → List Value → Prop
 | .int k, n, cs => cs = [.int k n] ∧ (Lit.int k n).wf = true
 | .bool, b, cs => cs = [.bool b]
 | .unit, _, cs => cs = []
 | .pair a b, x, cs => ∃ c1 c2, cs = c1 ++ c2 ∧ Abs H a x.1 c1 ∧ Abs H b x.2 c2
 | .slice t, l, cs => (l = [] ∧ cs = [.slice none 0 0]) ∨ (l = [] ∧ ∃ b, cs = [.slice (some ⟨b, 0, none⟩) 0 0]) ∨
  ∃ b row, H.get b = some (.cells true row) ∧ cs = [.slice (some ⟨b, 0, none⟩) l.length t.w] ∧ kZ (Abs H t) l row ∧ l.length ≤ maxLen
theorem kZ.mono {α : Type} {R S : α → List Value → Prop} (h : ∀ x c, R x c → S x c) {l : List α} {cs : List Value} (k : kZ R l cs) : kZ S l cs := by
 induction k with
 | nil => exact .nil
 | cons h1 _ ih => exact .cons (h _ _ h1) ih
theorem Abs.keep {H H' : AH} (k : f7 H H') : ∀ (t : Ty) (x : t.I) (cs : List Value), Abs H t x cs → Abs H' t x cs := by
 intro t
 induction t with
 | int k => intro x cs h; exact h
 | bool => intro x cs h; exact h
 | unit => intro x cs h; exact h
 | pair a b iha ihb =>
  intro x cs h;obtain ⟨c1, c2, e, h1, h2⟩ := h;exact ⟨c1, c2, e, iha _ _ h1, ihb _ _ h2⟩
 | slice t ih =>
  intro x cs h
  rcases h with h | h | ⟨b, row, h1, h2, h3, h4⟩
  ·exact .inl h
  ·exact .inr (.inl h)
  ·exact .inr (.inr ⟨b, row, k.get h1, h2, h3.mono ih, h4⟩)
theorem kZ.length {α : Type} {R : α → List Value → Prop} {n : Nat} (h : ∀ x c, R x c → c.length = n) {l : List α} {cs : List Value} (k : kZ R l cs) : cs.length = l.length * n := by
 induction k with
 | nil => simp
 | cons h1 _ ih => rw [fL, h _ _ h1, ih, List.length_cons, Nat.add_mul]; omega
theorem Abs.length {H : AH} : ∀ (t : Ty) (x : t.I) (cs : List Value), Abs H t x cs → cs.length = t.w := by
 intro t
 induction t with
 | int k => intro x cs h; rw [h.1]; rfl
 | bool => intro x cs h; have h : cs = _ := h; rw [h]; rfl
 | unit => intro x cs h; have h : cs = _ := h; rw [h]; rfl
 | pair a b iha ihb =>
  intro x cs h;obtain ⟨c1, c2, e, h1, h2⟩ := h;rw [e, fL, iha _ _ h1, ihb _ _ h2]; rfl
 | slice t ih =>
  intro x cs h
  rcases h with h | ⟨_, b, h⟩ | ⟨b, row, h1, h2, h3, h4⟩
  ·rw [h.2]; rfl
  ·rw [h]; rfl
  ·rw [h2]; rfl
def BS : (t : Ty) → t.I → Prop
 | .int _, _ => True
 | .bool, _ => True
 | .unit, _ => True
 | .pair a b, x => BS a x.1 ∧ BS b x.2
 | .slice t, l => l.length ≤ reachBytes ∧ ∀ x ∈ l, BS t x
def wOK {Hd : Type} (P : Program) (t : TypeId) (d : DataW Hd) : Prop := ∀ n ∈ DataW.weights P t d, n ≤ reachBytes
theorem sr {Hd : Type} {P : Program} {e : TypeId} {d : DataW Hd} {n : Nat} : ∀ {l : List (DataW Hd)}, d ∈ l → n ∈ DataW.weights P e d → n ∈ DataW.weightsAll P e l := by
 intro l
 induction l with
 | nil => intro h; cases h
 | cons x l ih =>
  intro h hn;rw [DataW.weightsAll, List.mem_append]
  rcases uj.1 h with rfl | h
  ·exact .inl hn
  ·exact .inr (ih h hn)
theorem Bb {Hd : Type} {P : Program} {n : Nat} : ∀ {ts : List TypeId} {ds : List (DataW Hd)} {i : Nat} {t : TypeId} {d : DataW Hd}, ts[i]? = some t → ds[i]? = some d → n ∈ DataW.weights P t d → n ∈ DataW.weightsEach P ts ds := by
 intro ts
 induction ts with
 | nil => intro ds i t d h; simp at h
 | cons t0 ts ih =>
  intro ds i t d h1 h2 hn
  cases ds with
  | nil => simp at h2
  | cons d0 ds =>
   rw [DataW.weightsEach, List.mem_append]
   cases i with
   | zero =>
    simp at h1 h2;subst h1; subst h2;exact .inl hn
   | succ i => exact .inr (ih (by simpa using h1) (by simpa using h2) hn)
def qu (P : Program) : Ty → (TypeId → Bool) × (List Field → Nat → Bool)
 | .int k => (fun t => match P.underlying t with | some (.int k') => k' == k && P.cellsOf t == 1 | _ => false, fun _ _ => false)
 | .bool => (fun t => match P.underlying t with | some .bool => P.cellsOf t == 1 | _ => false, fun _ _ => false)
 | .slice ty => (fun t => match P.underlying t with | some (.slice e) => (qu P ty).1 e && P.cellsOf e == ty.w && decide (0 < ty.w ∧ 0 < P.bytesOf e) && P.cellsOf t == 1 | _ => false, fun _ _ => false)
 | .unit => (fun _ => false, fun fs _ => fs.isEmpty)
 | .pair a b =>
  let F : List Field → Nat → Bool := fun fs off => match fs with
   | f :: fs => f.offset == off && (qu P a).1 f.type && P.cellsOf f.type == a.w && (qu P b).2 fs (off + a.w)
   | [] => false
  (fun t => match P.underlying t with | some (.struct fs) => P.cellsOf t == a.w + b.w && F fs.toList 0 | _ => false, F)
section
variable {Hd : Type} {enc : TypeId × Value → Hd} {P : Program} {w : World} {held : Bool}
theorem Rel.pushRo {B : Nat} {w0 : World} {ρ : bR} {H : AH} (h : Rel P w0 B ρ H w) {row : List Value} {c d sz : Nat} (hc : c < w.heap.size) (hcB : c < B) (hor : qA P ρ d sz (.cells true row) w.heap[c]?) :
 Rel P w0 B (ρ.upd H.size (c, d, sz)) (H.push (.cells true row)) w := by
 have hnone : ρ H.size = none := by
  cases hn : ρ H.size with
  | none => rfl
  | some x => have := h.dom _ _ hn; omega
 have hle := bR.upd_le (x := (c, d, sz)) hnone
 have key : ∀ b1 o1, (H.push (.cells true row)).get b1 = some o1 → (b1 = H.size ∧ o1 = .cells true row) ∨ (b1 < H.size ∧ H.get b1 = some o1) := by
  intro b1 o1 h1;rw [AH.get_push] at h1
  by_cases hb1 : b1 = H.size
  ·rw [if_pos hb1] at h1; exact .inl ⟨hb1, (iu h1).symm⟩
  ·rw [if_neg hb1] at h1; exact .inr ⟨AH.lt_of_get h1, h1⟩
 have old : ∀ {b1 c1 d1 sz1}, b1 < H.size → ρ.upd H.size (c, d, sz) b1 = some (c1, d1, sz1) → ρ b1 = some (c1, d1, sz1) := by
  intro b1 c1 d1 sz1 hb1 hx
  rwa [bR.upd_ne (by omega)] at hx
 have new : ∀ {c1 d1 sz1}, ρ.upd H.size (c, d, sz) H.size = some (c1, d1, sz1) → c1 = c ∧ d1 = d ∧ sz1 = sz := by
  intro c1 d1 sz1 hx;rw [bR.upd_same] at hx;cases hx;exact ⟨rfl, rfl, rfl⟩
 refine ⟨h.base, h.below, ?_, ?_, ?_, ?_, ?_, ?_⟩
 ·intro b1 x hx
  rw [AH.size_push]
  by_cases hb1 : b1 = H.size
  ·omega
  ·rw [bR.upd_ne hb1] at hx; have := h.dom b1 x hx; omega
 ·intro b1 c1 d1 sz1 hx
  by_cases hb1 : b1 = H.size
  ·subst hb1
   obtain ⟨rfl, _, _⟩ := new hx;exact hc
  ·rw [bR.upd_ne hb1] at hx; exact h.blk b1 c1 d1 sz1 hx
 ·intro b1 c1 d1 sz1 o1 hx h1
  rcases key b1 o1 h1 with ⟨rfl, rfl⟩ | ⟨hb1, h1⟩
  ·obtain ⟨rfl, rfl, rfl⟩ := new hx
   exact hor.mono hle
  ·exact (h.obj b1 c1 d1 sz1 o1 (old hb1 hx) h1).mono hle
 ·intro b1 c1 d1 sz1 o1 hx h1 hrw
  rcases key b1 o1 h1 with ⟨rfl, rfl⟩ | ⟨hb1, h1⟩
  ·cases hrw
  ·exact h.own b1 c1 d1 sz1 o1 (old hb1 hx) h1 hrw
 ·intro b1 c1 d1 sz1 cs1 hx h1
  rcases key b1 _ h1 with ⟨rfl, _⟩ | ⟨hb1, h1⟩
  ·obtain ⟨rfl, _, _⟩ := new hx
   exact hcB
  ·exact h.ro b1 c1 d1 sz1 cs1 (old hb1 hx) h1
 ·intro b1 b2 c1 d1 d2 sz1 sz2 o1 o2 hx1 hx2 h1 h2 hr1 hr2
  rcases key b1 o1 h1 with ⟨rfl, rfl⟩ | ⟨hb1, h1⟩
  ·cases hr1
  ·rcases key b2 o2 h2 with ⟨rfl, rfl⟩ | ⟨hb2, h2⟩
   ·cases hr2
   ·exact h.inj b1 b2 c1 d1 d2 sz1 sz2 o1 o2 (old hb1 hx1) (old hb2 hx2) h1 h2 hr1 hr2
theorem Nm {B : Nat} {w0 : World} {ρ : bR} {H : AH} (h : Rel P w0 B ρ H w) (x : Nat × Nat × Nat) : ∀ b y, ρ b = some y → ρ.upd H.size x b = some y :=
 bR.upd_le (by
  cases hn : ρ H.size with
  | none => rfl
  | some x => have := h.dom _ _ hn; omega)
def Got (P : Program) (w : World) (ρ : bR) (H : AH) (ty : Ty) (cs : List Value) (ρ' : bR) (H' : AH) : Prop :=
 ∃ x avs, Rel P w w.heap.size ρ' H' w ∧ (∀ b y, ρ b = some y → ρ' b = some y) ∧ f7 H H' ∧ LRel P ρ' avs cs ∧ Abs H' ty x avs ∧ BS ty x
theorem y8 {fuel : Nat} {t : TypeId} {cs : List Value} {x : DataW Hd × List MemPlace} (h : DataW.trod enc P w 0 (fun _ => true) held fuel t cs = some x) : ∃ n, fuel = n + 1 := by
 cases fuel with
 | zero => simp [DataW.trod] at h
 | succ n => exact ⟨n, rfl⟩
theorem U0 {ty : Ty} {e : TypeId} {n : Nat} (ih : ∀ (cs : List Value) (x : DataW Hd × List MemPlace) (ρ : bR) (H : AH), Rel P w w.heap.size ρ H w → DataW.trod enc P w 0 (fun _ => true) held n e cs = some x → wOK P e x.1 → ∃ ρ' H', Got P w ρ H ty cs ρ' H')
 (a : Addr) : ∀ (m i : Nat) (ρ : bR) (H : AH), Rel P w w.heap.size ρ H w → (∀ j, i ≤ j → j < i + m → ∃ y, (w.cells? 0 (a.add (j * ty.w)) ty.w).bind (DataW.trod enc P w 0 (fun _ => true) held n e) = some y ∧ wOK P e y.1) →
  ∃ ρ' H' l row cc, Rel P w w.heap.size ρ' H' w ∧ (∀ b y, ρ b = some y → ρ' b = some y) ∧ f7 H H' ∧ l.length = m ∧ kZ (Abs H' ty) l row ∧ LRel P ρ' row cc ∧ (∀ k, k < m * ty.w → w.cell? (a.add (i * ty.w + k)) = cc[k]?) ∧ cc.length = m * ty.w ∧ ∀ x ∈ l, BS ty x := by
 intro m
 induction m with
 | zero =>
  intro i ρ H hR _;exact ⟨ρ, H, [], [], [], hR, fun _ _ h => h, f7.refl H, rfl, .nil, LRel.nil, fun k hk => by omega, by simp, fun x hx => by cases hx⟩
 | succ m ihm =>
  intro i ρ H hR hel;obtain ⟨y, hy, hwy⟩ := hel i (bB _) (by omega);obtain ⟨cs, hcs, hy⟩ := aI.1 hy;obtain ⟨ρ1, H1, x, avs, hR1, hle1, hk1, hl1, ha1, hs1⟩ := ih cs y ρ H hR hy hwy;obtain ⟨ρ2, H2, l, row, cc, hR2, hle2, hk2, hlen, hrow, hl2, hcell, hcl, hs2⟩ := ihm (i + 1) ρ1 H1 hR1 (fun j h1 h2 => hel j (by omega) (by omega));obtain ⟨_, hcsl, hcsg⟩ := World.cells?_some hcs;refine ⟨ρ2, H2, x :: l, avs ++ row, cs ++ cc, hR2, fun b y h => hle2 b y (hle1 b y h), hk1.trans hk2, by simp [hlen], .cons (Abs.keep hk2 ty x avs ha1) hrow, (hl1.mono hle2).append hl2, ?_, ?_, ?_⟩
  ·intro k hk
   have hmul : (m + 1) * ty.w = ty.w + m * ty.w := by rw [Nat.add_mul]; omega
   have hmul2 : (i + 1) * ty.w = i * ty.w + ty.w := by rw [Nat.add_mul]; omega
   by_cases hkw : k < ty.w
   ·rw [List.getElem?_append_left (by omega), ← hcsg k hkw]
    congr 1
    unfold Addr.add
    repeat' split
    all_goals first | rfl | omega | (simp; done) | (simp; omega)
   ·rw [List.getElem?_append_right (by omega), hcsl, ← hcell (k - ty.w) (by omega), hmul2]
    congr 2
    omega
  ·rw [fL, hcsl, hcl, Nat.add_mul]; omega
  ·intro z hz
   rcases uj.1 hz with rfl | hz
   ·exact hs1
   ·exact hs2 z hz
theorem aiB : ∀ (ty : Ty),
 (∀ (t : TypeId), (qu P ty).1 t = true → ∀ (fuel : Nat) (cs : List Value) (x : DataW Hd × List MemPlace) (ρ : bR) (H : AH), Rel P w w.heap.size ρ H w → DataW.trod enc P w 0 (fun _ => true) held fuel t cs = some x → wOK P t x.1 → ∃ ρ' H', Got P w ρ H ty cs ρ' H') ∧
 (∀ (fs : List Field) (off : Nat), (qu P ty).2 fs off = true → ∀ (fuel : Nat) (cs : List Value) (ρ : bR) (H : AH), Rel P w w.heap.size ρ H w → cs.length = off + ty.w →
  (∀ f ∈ fs, ∃ y, DataW.trod enc P w 0 (fun _ => true) held fuel f.type ((cs.drop f.offset).take (P.cellsOf f.type)) = some y ∧ wOK P f.type y.1) → ∃ ρ' H', Got P w ρ H ty (cs.drop off) ρ' H') := by
 intro ty
 induction ty with
 | int k =>
  refine ⟨?_, fun fs off h => by cases h⟩;intro t ht fuel cs x ρ H hR h hwx;obtain ⟨n, rfl⟩ := y8 h;simp only [qu] at ht
  split at ht
  ·rename_i k' hu
   simp only [Bool.and_eq_true, beq_iff_eq] at ht;obtain ⟨rfl, _⟩ := ht;obtain ⟨n, rfl, _, hw⟩ := DataW.trod_int hu h;exact ⟨ρ, H, n, [.int k' n], hR, fun _ _ h => h, f7.refl H, LRel.of_all rfl, ⟨rfl, hw⟩, trivial⟩
  ·cases ht
 | bool =>
  refine ⟨?_, fun fs off h => by cases h⟩;intro t ht fuel cs x ρ H hR h hwx;obtain ⟨n, rfl⟩ := y8 h;simp only [qu] at ht
  split at ht
  ·rename_i hu
   obtain ⟨b, rfl, _⟩ := DataW.trod_bool hu h;exact ⟨ρ, H, b, [.bool b], hR, fun _ _ h => h, f7.refl H, LRel.of_all rfl, rfl, trivial⟩
  ·cases ht
 | unit =>
  refine ⟨fun t h => by (cases h), ?_⟩;intro fs off hfs fuel cs ρ H hR hl h;refine ⟨ρ, H, (), [], hR, fun _ _ h => h, f7.refl H, ?_, rfl, trivial⟩;have : cs.drop off = [] := List.drop_eq_nil_of_le (by simp [Ty.w] at hl; omega);rw [this]; exact LRel.nil
 | slice ty ih =>
  refine ⟨?_, fun fs off h => by cases h⟩;intro t ht fuel cs x ρ H hR h hwx;simp only [qu] at ht
  split at ht
  ·rename_i e hu
   simp only [Bool.and_eq_true, beq_iff_eq, decide_eq_true_eq] at ht;obtain ⟨⟨⟨ht, he⟩, hw, hby⟩, _⟩ := ht
   rcases DataW.trod_slice hu h with ⟨rfl, _⟩ | ⟨a, len, cap, elems, rest, n, rfl, rfl, hx, _, hlc, hcm, hlen, hel, hsp, _⟩
   ·exact ⟨ρ, H, [], [.slice none 0 0], hR, fun _ _ h => h, f7.refl H, LRel.of_all rfl, .inl ⟨rfl, rfl⟩, Nat.zero_le _, fun x hx => by cases hx⟩
   ·have hwt : DataW.weights P t x.1 = (elems.length + rest.length) * P.bytesOf e :: (DataW.weightsAll P e (elems.map (·.1)) ++ DataW.weightsAll P e (rest.map (·.1))) := by
     rw [hx];unfold DataW.weights;rw [hu];simp
    have hreach : len ≤ reachBytes := by
     have h1 := hwx _ (by rw [hwt]; exact List.mem_cons_self)
     have h2 : len + rest.length ≤ (elems.length + rest.length) * P.bytesOf e := by
      rw [hlen]
      exact Nat.le_mul_of_pos_right _ hby
     omega
    have hwe : ∀ (y : DataW Hd × List MemPlace), (y ∈ elems ∨ y ∈ rest) → wOK P e y.1 := by
     intro y hy n hn;refine hwx n ?_;rw [hwt, uj, List.mem_append]
     rcases hy with hy | hy
     ·exact .inr (.inl (sr (List.mem_map.2 ⟨y, hy, rfl⟩) hn))
     ·exact .inr (.inr (sr (List.mem_map.2 ⟨y, hy, rfl⟩) hn))
    rw [he] at hel hsp
    by_cases hc0 : cap = 0
    ·subst hc0
     obtain rfl : len = 0 := by omega
     exact ⟨ρ, H, [], [.slice (some ⟨0, 0, none⟩) 0 0], hR, fun _ _ h => h, f7.refl H, LRel.cons .empty LRel.nil, .inr (.inl ⟨rfl, 0, rfl⟩), Nat.zero_le _, fun x hx => by cases hx⟩
    ·have all : ∀ j, 0 ≤ j → j < 0 + cap → ∃ y, (w.cells? 0 (a.add (j * ty.w)) ty.w).bind (DataW.trod enc P w 0 (fun _ => true) held n e) = some y ∧ wOK P e y.1 := by
      intro j _ hj
      by_cases hjl : j < len
      ·rw [hel j hjl]
       exact ⟨elems[j]'(by omega), cT (by omega), hwe _ (.inl (X0 _))⟩
      ·obtain ⟨hr1, hr2⟩ := hsp rfl
       have := hr2 (j - len) (by omega);rw [show len + (j - len) = j from by omega] at this;rw [this];exact ⟨rest[j - len]'(by omega), cT (by omega), hwe _ (.inr (X0 _))⟩
     -- all cells of its dr are there
     obtain ⟨_, _, _, _, cca, _, _, _, _, _, _, hca, hcal, _⟩ := U0 (fun cs x ρ H => ih.1 e ht n cs x ρ H) a cap 0 ρ H hR all;obtain ⟨ρ1, H1, l, row, cc, hR1, hle1, hk1, hll, hrow, hl1, hcell, hcl, hsm⟩ := U0 (fun cs x ρ H => ih.1 e ht n cs x ρ H) a len 0 ρ H hR (fun j h1 h2 => all j h1 (by omega));have hpos : 0 < cap * ty.w := Nat.mul_pos (by omega) hw;have h0 := hca 0 hpos;have hsome : ∃ v, cca[0]? = some v := ⟨cca[0]'(by omega), cT (by omega)⟩;obtain ⟨v0, hv0⟩ := hsome;rw [hv0] at h0
     have hadd0 : a.add (0 * ty.w + 0) = a := by simp [Addr.add]
     rw [hadd0] at h0;unfold World.cell? at h0
     split at h0
     ·rename_i c el fz hblk
      split at h0
      ·cases h0
      ·rename_i hspot
       obtain ⟨ab, ao, as'⟩ := a
       have : as' = none := by cases as' with | none => rfl | some _ => simp at hspot
       subst this
       have cellsAt : ∀ k, k < cap * ty.w → c[ao + k]? = cca[k]? := by
        intro k hk;have := hca k hk;rw [show 0 * ty.w + k = k from by omega, Addr.add_lit] at this;unfold World.cell? at this;simp only [hblk, Option.isSome_none] at this
        simpa using this
       have hfit : ao + cap * ty.w ≤ c.size := by
        have := cellsAt (cap * ty.w - 1) (by omega);rw [cT (by omega)] at this;have := (Array.getElem?_eq_some_iff.1 this).1;omega
       have hsub : len * ty.w ≤ cap * ty.w := Nat.mul_le_mul_right _ hlc
       have hrl : row.length = len * ty.w := by rw [hl1.1, hcl]
       have hccs : (c.toList.drop ao).take row.length = cc := by
        apply List.ext_getElem?;intro k;rw [hrl, List.getElem?_take]
        by_cases hk : k < len * ty.w
        ·rw [if_pos hk, List.getElem?_drop]
         have h1 := hcell k hk;rw [show 0 * ty.w + k = k from by omega, Addr.add_lit] at h1;unfold World.cell? at h1;simp only [hblk, Option.isSome_none] at h1;rw [← h1];simp
        ·rw [if_neg hk, List.getElem?_eq_none (by omega)]
       have hblk' : w.heap[ab]? = some (.cells c el fz) := hblk;have hab : ab < w.heap.size := (Array.getElem?_eq_some_iff.1 hblk').1;have hp := hR1.pushRo (row := row) (c := ab) (d := ao) (sz := c.size) hab hab ⟨c, el, fz, hblk', rfl, by omega, (fun h => by cases h), by rw [hccs]; exact hl1⟩;have hkp := f7.push H1 (.cells true row);refine ⟨_, _, l, [.slice (some ⟨H1.size, 0, none⟩) l.length ty.w], hp, fun b y h => Nm hR1 _ b y (hle1 b y h), hk1.trans hkp, LRel.cons ?_ LRel.nil, .inr (.inr ⟨H1.size, row, AH.get_push_new _ _, rfl, hrow.mono (Abs.keep hkp ty), by omega⟩), by rw [hll]; exact hreach, hsm⟩;rw [hll];have := VRel.slice (P := P) (ρ := ρ1.upd H1.size (ab, ao, c.size)) (b := H1.size) (o := 0) (n := len) (e := ty.w) (c := ab) (d := ao) (sz := c.size) (k := cap) (bR.upd_same ..) (by omega) hlc hw
       simpa using this
     ·cases h0
  ·cases ht
 | pair a b iha ihb =>
  have fields : ∀ (fs : List Field) (off : Nat), (qu P (.pair a b)).2 fs off = true → ∀ (fuel : Nat) (cs : List Value) (ρ : bR) (H : AH), Rel P w w.heap.size ρ H w → cs.length = off + (a.w + b.w) →
   (∀ f ∈ fs, ∃ y, DataW.trod enc P w 0 (fun _ => true) held fuel f.type ((cs.drop f.offset).take (P.cellsOf f.type)) = some y ∧ wOK P f.type y.1) → ∃ ρ' H', Got P w ρ H (.pair a b) (cs.drop off) ρ' H' := by
   intro fs off hfs fuel cs ρ H hR hl h;simp only [qu] at hfs
   cases fs with
   | nil => cases hfs
   | cons f fs =>
    simp only [Bool.and_eq_true, beq_iff_eq] at hfs;obtain ⟨⟨⟨h1, h2⟩, h3⟩, h4⟩ := hfs;obtain ⟨y, hy, hwy⟩ := h f (by simp);rw [h1, h3] at hy;obtain ⟨ρ1, H1, x1, a1, hR1, hle1, hk1, hl1, ha1, hs1⟩ := iha.1 f.type h2 fuel _ y ρ H hR hy hwy;obtain ⟨ρ2, H2, x2, a2, hR2, hle2, hk2, hl2, ha2, hs2⟩ := ihb.2 fs (off + a.w) h4 fuel cs ρ1 H1 hR1 (by omega) (fun g hg => h g (by simp [hg]));refine ⟨ρ2, H2, (x1, x2), a1 ++ a2, hR2, fun b y h => hle2 b y (hle1 b y h), hk1.trans hk2, ?_, ⟨a1, a2, rfl, Abs.keep hk2 a x1 a1 ha1, ha2⟩, hs1, hs2⟩
    have e : cs.drop off = (cs.drop off).take a.w ++ cs.drop (off + a.w) := by
     rw [← List.drop_drop];exact (List.take_append_drop a.w (cs.drop off)).symm
    rw [e];exact (hl1.mono hle2).append hl2
  refine ⟨?_, fields⟩;intro t ht fuel cs x ρ H hR h hwx;obtain ⟨n, rfl⟩ := y8 h;have ht' := ht;simp only [qu] at ht
  split at ht
  ·rename_i fs hu
   simp only [Bool.and_eq_true, beq_iff_eq] at ht;obtain ⟨xs, n', _, hxe, hlen, hxl, hxs⟩ := DataW.trod_struct hu h
   have := fields fs.toList 0 ht.2 n' cs ρ H hR (by rw [hlen, ht.1]; simp) (fun f hf => by
    obtain ⟨i, hi, rfl⟩ := List.mem_iff_getElem.1 hf;have := hxs i fs.toList[i] (by simp);rw [this]
    have hix : i < xs.length := by rw [hxl]; simpa using hi
    refine ⟨xs[i]'hix, cT _, fun n hn => hwx n ?_⟩;rw [hxe];unfold DataW.weights;rw [hu]
    exact Bb (i := i) (by rw [yj, cT hi]; rfl) (by rw [yj, cT hix]; rfl) hn)
   simpa using this
  ·cases ht
end
def valOf : Ty → List Value → Value
 | .pair _ _, cs => .agg cs.toArray
 | .unit, cs => .agg cs.toArray
 | _, cs => cs.headD undef
abbrev ZL : List Ty → Type
 | [] => Unit
 | t :: ts => t.I × ZL ts
def su (H : AH) : (ts : List Ty) → ZL ts → List Value → Prop
 | [], _, vs => vs = []
 | t :: ts, x, vs => ∃ cs rest, vs = valOf t cs :: rest ∧ Abs H t x.1 cs ∧ su H ts x.2 rest
theorem su.keep {H H' : AH} (k : f7 H H') : ∀ (ts : List Ty) (x : ZL ts) (vs : List Value), su H ts x vs → su H' ts x vs := by
 intro ts
 induction ts with
 | nil => intro x vs h; exact h
 | cons t ts ih =>
  intro x vs h;obtain ⟨cs, rest, e, h1, h2⟩ := h;exact ⟨cs, rest, e, Abs.keep k t _ _ h1, ih _ _ h2⟩
def xz : (ts : List Ty) → ZL ts → Prop
 | [], _ => True
 | t :: ts, x => BS t x.1 ∧ xz ts x.2
def sH (P : Program) : List Ty → List TypeId → Bool
 | [], [] => true
 | ty :: tys, t :: ts => (qu P ty).1 t && P.readableRec t && decide (t < P.types.size) && sH P tys ts
 | _, _ => false
section
variable {Hd : Type} {enc : TypeId × Value → Hd} {P : Program} {w : World} {held : Bool}
theorem ajK {ty : Ty} {t : TypeId} (ht : (qu P ty).1 t = true) {v : Value} {d : DataW Hd} {ps : List MemPlace} {r : Reach} {b0 : Nat} (hval : Value.okWide P w r b0 t v) (h : DataW.Trod enc P w 0 (fun _ => true) held t v d ps) (hwd : wOK P t d)
 {ρ : bR} {H : AH} (hR : Rel P w w.heap.size ρ H w) : ∃ ρ' H' x avs, Rel P w w.heap.size ρ' H' w ∧ (∀ b y, ρ b = some y → ρ' b = some y) ∧ f7 H H' ∧ VRel P ρ' (valOf ty avs) v ∧ Abs H' ty x avs ∧ BS ty x := by
 obtain ⟨fuel, h⟩ := h;obtain ⟨ρ', H', x, avs, h1, h2, h3, h4, h5, h6⟩ := (aiB (enc := enc) (P := P) (w := w) (held := held) ty).1 t ht fuel _ _ ρ H hR h hwd;refine ⟨ρ', H', x, avs, h1, h2, h3, ?_, h5, h6⟩;have hlen := Abs.length ty x avs h5
 have one : ∀ (hw : ty.w = 1) (hva : ∀ cs, v ≠ .agg cs), VRel P ρ' (avs.headD undef) v := by
  intro hw hva
  have hc : v.cells.toList = [v] := by
   cases v <;> first | rfl | exact absurd rfl (hva _)
  rw [hc] at h4
  match avs, hlen with
  | [a], _ => exact h4.2 0 a v rfl rfl
  | [], hl => rw [hw] at hl; cases hl
  | a :: b :: l, hl => rw [hw] at hl; simp at hl
 cases ty with
 | int k =>
  refine one rfl (fun cs e => ?_);subst e;simp only [qu] at ht
  split at ht
  ·rename_i hu
   unfold Value.okWide at hval;rw [hu] at hval;unfold Cell.okWide at hval;rw [hu] at hval;unfold Cell.ok at hval;rw [hu] at hval;exact hval
  ·cases ht
 | bool =>
  refine one rfl (fun cs e => ?_);subst e;simp only [qu] at ht
  split at ht
  ·rename_i hu
   unfold Value.okWide at hval;rw [hu] at hval;unfold Cell.okWide at hval;rw [hu] at hval;unfold Cell.ok at hval;rw [hu] at hval;exact hval
  ·cases ht
 | slice e =>
  refine one rfl (fun cs e => ?_);subst e;simp only [qu] at ht
  split at ht
  ·rename_i hu
   unfold Value.okWide at hval;rw [hu] at hval;unfold Cell.okWide at hval;rw [hu] at hval;unfold Cell.ok at hval;rw [hu] at hval;exact hval
  ·cases ht
 | unit => simp only [qu] at ht; cases ht
 | pair a b =>
  simp only [qu] at ht
  split at ht
  ·rename_i fs hu
   unfold Value.okWide at hval;rw [hu] at hval;obtain ⟨cs, rfl, _⟩ := hval;have h4 : LRel P ρ' avs cs.toList := h4;exact .agg (by simpa using h4.1) (fun i x y hx hy => h4.2 i x y (by simpa using hx) (by simpa using hy))
  ·cases ht
theorem Z3 : ∀ (tys : List Ty) (ts : List TypeId) (vs : List Value) (ds : List (DataW Hd)) (ps : List MemPlace), sH P tys ts = true → (∀ (j : Nat) t v, ts[j]? = some t → vs[j]? = some v → ∃ r b0, Value.okWide P w r b0 t v) →
 DataW.TrodAll enc P w 0 (fun _ => true) held ts vs ds ps → (∀ n ∈ DataW.weightsEach P ts ds, n ≤ reachBytes) → ∀ (ρ : bR) (H : AH), Rel P w w.heap.size ρ H w →
 ∃ ρ' H' x avs, Rel P w w.heap.size ρ' H' w ∧ (∀ b y, ρ b = some y → ρ' b = some y) ∧ f7 H H' ∧ LRel P ρ' avs vs ∧ su H' tys x avs ∧ xz tys x := by
 intro tys
 induction tys with
 | nil =>
  intro ts vs ds ps hc hval h hwd ρ H hR
  cases ts with
  | cons t ts => cases hc
  | nil =>
   obtain ⟨rfl, _, _⟩ := trodAll_nil h;exact ⟨ρ, H, (), [], hR, fun _ _ h => h, f7.refl H, LRel.nil, rfl, trivial⟩
 | cons ty tys ih =>
  intro ts vs ds ps hc hval h hwd ρ H hR
  cases ts with
  | nil => cases hc
  | cons t ts =>
   simp only [sH, Bool.and_eq_true] at hc;obtain ⟨⟨⟨hc1, _⟩, _⟩, hc2⟩ := hc;obtain ⟨v, vs', d, ds', p, q, rfl, rfl, rfl, hd, hrest⟩ := trodAll_cons h;obtain ⟨r, b0, hv0⟩ := hval 0 t v rfl rfl;obtain ⟨ρ1, H1, x1, a1, hR1, hle1, hk1, hv1, ha1, hs1⟩ := ajK hc1 hv0 hd (fun n hn => hwd n (by rw [DataW.weightsEach]; exact List.mem_append_left _ hn)) hR;obtain ⟨ρ2, H2, x2, a2, hR2, hle2, hk2, hl2, ha2, hs2⟩ := ih ts vs' ds' q hc2 (fun j t v h1 h2 => hval (j + 1) t v (by simpa using h1) (by simpa using h2)) hrest (fun n hn => hwd n (by rw [DataW.weightsEach]; exact List.mem_append_right _ hn)) ρ1 H1 hR1;exact ⟨ρ2, H2, (x1, x2), valOf ty a1 :: a2, hR2, fun b y h => hle2 b y (hle1 b y h), hk1.trans hk2, LRel.cons (hv1.mono hle2) hl2, ⟨a1, a2, rfl, Abs.keep hk2 ty x1 a1 ha1, ha2⟩, hs1, hs2⟩
theorem VQ (hl : laidOutB P = true) {W' : World} (hb : Below w.heap.size w W') : ∀ (tys : List Ty) (ts : List TypeId) (vs : List Value) (ds : List (DataW Hd)) (ps : List MemPlace), sH P tys ts = true → (∀ x ∈ ps, x.block < w.heap.size) →
 DataW.TrodAll enc P w 0 (fun _ => true) true ts vs ds ps → DataW.TrodAll enc P W' 0 (fun b => decide (b < w.heap.size)) true ts vs ds ps := by
 intro tys
 induction tys with
 | nil =>
  intro ts vs ds ps hc hlt h
  cases ts with
  | cons t ts => cases hc
  | nil =>
   obtain ⟨rfl, rfl, rfl⟩ := trodAll_nil h;exact trodAll_mk0
 | cons ty tys ih =>
  intro ts vs ds ps hc hlt h
  cases ts with
  | nil => cases hc
  | cons t ts =>
   simp only [sH, Bool.and_eq_true, decide_eq_true_eq] at hc;obtain ⟨⟨⟨_, hc1⟩, hc3⟩, hc2⟩ := hc;obtain ⟨v, vs', d, ds', p, q, rfl, rfl, rfl, hd, hrest⟩ := trodAll_cons h;exact ⟨p, q, Below.trod hl hc1 hc3 hd hb (fun x hx => hlt x (by simp [hx])), ih ts vs' ds' q hc2 (fun x hx => hlt x (by simp [hx])) hrest, rfl⟩
theorem law_post (hm : P.follows .mixedOrders = true) (hl : laidOutB P = true) {G : List Nat} {f : Nat} {fn : Func} {s : ChangeSpec} {tys : List Ty} (hc : sH P tys fn.params.toList = true)
 {tb : TypeId} (hres : fn.resultTypes = #[tb]) (hb : P.underlying tb = some .bool) (hvars : s.vars = [])
 {args : Array Value} {ds gs : List (DataW Hd)} {before : List MemPlace} (hval : ∀ (j : Nat) t v, fn.params[j]? = some t → args[j]? = some v → ∃ r b0, Value.okWide P w r b0 t v)
 (hW : DataW.Whole enc P fn.params.toList s.vars false w args.toList ds gs before) (hspec : s.fn Hd (ds ++ gs) = { results := [.lit (.bool true)], args := ds })
 {ρ0 : bR} {H0 : AH} (hR : Rel P w w.heap.size ρ0 H0 w) (hG : GlobRel ρ0 G)
 (hwt : (DataW.weightsEach P fn.params.toList ds).all (· ≤ reachBytes) = true)
 (run : ∀ (x : ZL tys) (avs : List Value) (H : AH), f7 H0 H → su H tys x avs → xz tys x → ∃ H', aF P G f avs H = some (.bool true, H')) :
 Calls P f args w fun e w' => ∃ v, e = .returned v ∧ s.post enc P fn false true false false w args v w' := by
 have hW' := hW;obtain ⟨p, q, hA, hV, rfl, hfz, hnd⟩ := hW;rw [hvars] at hV;obtain ⟨rfl, rfl⟩ := trodVars_none hV;obtain ⟨ρ1, H1, x, avs, hR1, hle1, hk1, hl1, ha1, hs1⟩ := Z3 tys fn.params.toList args.toList ds p hc (fun j t v h1 h2 => hval j t v (by simpa using h1) (by simpa using h2)) hA (fun n hn => by simpa using List.all_eq_true.1 hwt n hn) ρ0 H0 hR;obtain ⟨H', hrun⟩ := run x avs H1 hk1 ha1 hs1;have hG1 : GlobRel ρ1 G := fun g hg => let ⟨sz, h⟩ := hG g hg; ⟨sz, hle1 _ _ h⟩;have hcall := ((aqE (P := P) (G := G) hm).1 f avs H1 _ H' hrun).2 w w.heap.size ρ1 w args.toList hR1 hG1 hl1;rw [show args.toList.toArray = args from by simp] at hcall;refine hcall.mono fun e w' ⟨v', ρ', he, hv, hext, hR'⟩ => ?_
 have hv : v' = .bool true := by
  cases hv with
  | lit h => rfl
 subst hv;subst he
 have hlt : ∀ y ∈ p, y.block < w.heap.size := fun y hy => by
  have := hW'.lt y (by simp [hy])
  simpa using this
 refine ⟨_, rfl, ds, [], p ++ [], [], p, [], hW', ?_, ?_, ?_, ?_, fun h => by cases h⟩
 ·rw [hspec, hres]
  exact ⟨[], [], shut_bool hb true, trodAll_mk0, rfl⟩
 ·rw [hspec]
  exact VQ hl hR'.below tys _ _ _ _ hc hlt hA
 ·rw [hvars, hspec]
  rfl
 ·exact hR'.below.frame _
end
theorem rel_none (P : Program) (w : World) : Rel P w w.heap.size (fun _ => none) ⟨[]⟩ w where
 base := bB _
 below := Below.refl _ _
 dom := fun b x h => by cases h
 blk := fun b c d sz h => by cases h
 obj := fun b c d sz o h => by cases h
 own := fun b c d sz o h => by cases h
 ro := fun b c d sz cs h => by cases h
 inj := fun b b' c d d' sz sz' o o' h => by cases h
end Go.Proofs.YtflbeghglllknaaGreatDoor.Gst
namespace Go.Proofs.YtflbeghglllknaaGreatDoor.Gst
open Go Go.RowKit
set_option maxRecDepth 100000
set_option linter.unusedVariables false
set_option maxHeartbeats 1000000
abbrev Id : Nat := 1684996666696914987166688442938726917102321526408785780068975640575
abbrev VS : Nat := 65185151242703554760590262029100101153646988597309960020356494379340201592426774597868716015
abbrev Oo : Nat := 1684996666696914987166688442938726917102321526408785780068975493118
abbrev Oq : Nat := 1684996666696914987166688442938726917102321526408785780068975631358
abbrev Z9 : Nat := 1684996666696914987166688442938726917102321526408785780068967514080
abbrev aaA : Nat := 1684996666696914987166688442938726917102321526408785780068975591402
abbrev aaC : Nat := 1684996666696914987166688442938726917102321526408785780068975637484
abbrev ajL : Nat := 1684996666696914987166688442938726917102321526408785780068975640544
abbrev ajM : Nat := 1684996666696914987166688442938726917102321526408785780068973805536
abbrev ajN : Nat := 1684996666696914987166688442938726917102321526408785780068975624186
abbrev RU : Nat := 1684996666696914987166688442938726917102321526408785780068975639548
abbrev vg : Nat := 1237940039285380274899122808
abbrev Gj : Nat := 87112285931760246646623899502532662132671
abbrev Lh : Nat := 356811923176489970264571492362373784095686572
abbrev RV : Nat := 2923003274661805836407369665432566039311865085887
abbrev B4 : Nat := 1237940039285380274899123320
abbrev tx : Nat := 9223372036854775352
abbrev B5 : Nat := 309485009821345068724780233
abbrev amU : Nat := 65185151242703554760590262029100101153646988597309960020356494379340201592426774597868715788
abbrev jO : Nat := 1073741624
abbrev tz : Nat := 9007199254740720
abbrev zd : Nat := 9223372036854775608
abbrev ml : Nat := 1073741759
abbrev RW : Nat := 664613997892457936451903530140172271
abbrev Li : Nat := 1237940039285380274899123832
abbrev Z7 : Nat := 356811923176489970264571492362373784095686540
abbrev Z8 : Nat := 356811923176489970264571492362373784095686412
abbrev B6 : Nat := 9223372036854775736
abbrev RX : Nat := 40564819207303340847894502572015
abbrev B7 : Nat := 36028797018961213
abbrev B8 : Nat := 4503599627243407
abbrev B9 : Nat := 1125899906842566
abbrev Ca : Nat := 9007199254740208
abbrev RY : Nat := 309485009821345068724780751
abbrev ze : Nat := 4398046511091
abbrev Cb : Nat := 4397241204723
abbrev Lj : Nat := 288230376151708650
abbrev Lk : Nat := 72057594037927887
abbrev Cc : Nat := 274877905904
abbrev RZ : Nat := 36893488147419103219
abbrev Ll : Nat := 1125899906842598
abbrev R0 : Nat := 576460752303423436
abbrev R3 : Nat := 288230376151710698
abbrev Cd : Nat := 1073627115
abbrev Ce : Nat := 1073692589
abbrev Cf : Nat := 1073741708
abbrev aaB : Nat := 18889465931478580850727
abbrev R4 : Nat := 36028797018963775
abbrev Lm : Nat := 4398046511090
abbrev R5 : Nat := 4503599627341807
abbrev R6 : Nat := 2251799813685196
abbrev Ln : Nat := 137438953423
abbrev aaD : Nat := 9223372036854775807
noncomputable abbrev PP : Program := Tryz.prog
def GG : List Nat := [0]
noncomputable abbrev FF : bK := aF PP GG
noncomputable abbrev CQ (c : Code) (kn : KK) (kx : KX) (kr : KK) : KK := CK PP GG FF c kn kx kr
noncomputable abbrev xy (c : Code) (kx : KX) (kr : KK) : KK := CL PP GG FF c kx kr
def jq : Nat := 3
def uq : Nat := 9
def bU : Nat := 10
def rz : Nat := 11
def ry : Nat := 12
def ur : Nat := 13
def lc : Nat := 14
def gW : Nat := 18
def rA : Nat := 19
def lg : Nat := 20
def fW : Nat := 21
def afF : Nat := 25
def fY : Nat := 27
def jt : Nat := 28
def ft : Nat := 29
def ee : Nat := 30
def nW : Nat := 31
def rC : Nat := 32
def mG : Nat := 33
def mB : Nat := 34
def rD : Nat := 35
def eg : Nat := 36
def pE : Nat := 37
def eM : Nat := 38
def afK : Nat := 40
def j5 : Nat := 41
def kw : Nat := 42
def yq : Nat := 43
def yu : Nat := 44
def yp : Nat := 45
def eO : Nat := 46
def mJ : Nat := 47
def bp : Nat := 48
def pF : Nat := 49
def pG : Nat := 50
def kq : Nat := 51
def fX : Nat := 52
def dy : Nat := 53
def ed : Nat := 54
def dq : Nat := 55
def mC : Nat := 56
def afL : Nat := 57
def afN : Nat := 58
def dM : Nat := 59
def nk : Nat := 60
def jx : Nat := 61
def fC : Nat := 62
def kA : Nat := 63
def nV : Nat := 64
def yr : Nat := 65
def rx : Nat := 66
def rH : Nat := 67
def us : Nat := 68
def ul : Nat := 69
def mF : Nat := 70
def mH : Nat := 71
def nY : Nat := 72
def nX : Nat := 73
def ks : Nat := 74
def d8 : Nat := 75
def gX : Nat := 76
def gy : Nat := 77
def iM : Nat := 78
def um : Nat := 79
def ca : Nat := 80
def cA : Nat := 84
def iL : Nat := 86
def iq : Nat := 87
def jv : Nat := 88
def mA : Nat := 89
def eF : Nat := 90
def fF : Nat := 91
def eN : Nat := 92
def bJ : Nat := 93
def Ej : Nat := 94
def gY : Nat := 95
def eb : Nat := 96
def lj : Nat := 97
def eE : Nat := 98
def b8 : Nat := 99
def iJ : Nat := 100
def gL : Nat := 101
def iI : Nat := 102
def j9 : Nat := 103
def mI : Nat := 104
def fE : Nat := 105
def iK : Nat := 106
def ju : Nat := 107
def anJ : Nat := 108
def afI : Nat := 109
def lx : Nat := 110
def qc : Nat := 111
def fU : Nat := 112
def dz : Nat := 113
def fB : Nat := 114
def afO : Nat := 115
def j0 : Nat := 116
def afJ : Nat := 117
def jr : Nat := 118
def fD : Nat := 119
def bI : Nat := 120
def rE : Nat := 121
def ut : Nat := 122
def wr : Nat := 123
def wq : Nat := 124
def afG : Nat := 125
def gg : Nat := 126
def uu : Nat := 127
def cu : Nat := 128
def nZ : Nat := 129
def dI : Nat := 130
def eA : Nat := 131
def iB : Nat := 132
def ku : Nat := 133
def Ei : Nat := 134
def g8 : Nat := 135
def pH : Nat := 137
def gM : Nat := 138
def jb : Nat := 139
def j3 : Nat := 140
def gu : Nat := 141
def dp : Nat := 142
def cZ : Nat := 143
def cP : Nat := 144
def afH : Nat := 145
def j8 : Nat := 146
def lk : Nat := 147
def d9 : Nat := 148
def eD : Nat := 149
def eC : Nat := 150
def iH : Nat := 151
def lh : Nat := 152
def j6 : Nat := 153
def j7 : Nat := 154
def jw : Nat := 155
def ru : Nat := 156
def nU : Nat := 157
def Uz : Nat := 158
def G0 : Nat := 159
def jo : Nat := 160
def uv : Nat := 161
def rG : Nat := 162
def rF : Nat := 171
def eS : Nat := 172
def np : Nat := 173
def dU : Nat := 174
def mD : Nat := 175
def lY : Nat := 176
def lV : Nat := 177
def wn : Nat := 178
def bN : Nat := 179
def gU : Nat := 180
def dn : Nat := 181
def da : Nat := 182
def bg : Nat := 183
def cj : Nat := 184
def bV : Nat := 185
def mE : Nat := 186
def afM : Nat := 187
def rI : Nat := 188
def uo : Nat := 189
def jy : Nat := 204
def fV : Nat := 205
def dN : Nat := 206
def cr : Nat := 207
def eJ : Nat := 208
def ky : Nat := 209
def bu : Nat := 210
def aO : Nat := 211
def dA : Nat := 212
def MT : Nat := 213
def pI : Nat := 214
def fG : Nat := 243
def lW : Nat := 244
def eK : Nat := 245
def kz : Nat := 246
def cm : Nat := 247
def dX : Nat := 248
def eR : Nat := 249
def n0 : Nat := 250
def fh : Nat := 251
def g6 : Nat := 267
def gZ : Nat := 268
def oN : Nat := 269
def j2 : Nat := 270
def j1 : Nat := 271
def ka : Nat := 272
def dJ : Nat := 273
def dE : Nat := 274
def cw : Nat := 275
def fA : Nat := 281
def gv : Nat := 282
def oM : Nat := 283
def ip : Nat := 284
def l6 : Nat := 285
def nq : Nat := 286
def ir : Nat := 287
def cE : Nat := 288
def fy : Nat := 289
def nl : Nat := 290
def wo : Nat := 291
def l5 : Nat := 292
def lT : Nat := 293
def lU : Nat := 294
def gj : Nat := 295
def ll : Nat := 296
def g7 : Nat := 297
def gr : Nat := 298
def j4 : Nat := 299
def dT : Nat := 300
def jp : Nat := 301
def lX : Nat := 302
def iU : Nat := 303
def lZ : Nat := 304
def iV : Nat := 305
def oL : Nat := 306
section
variable (x0 x1 x2 x3 x4 x5 x6 x7 x8 x9 x10 x11 x12 x13 x14 x15 x16 x32 : Value) (H : AH)
noncomputable def FN (p : List Nat) : Code := Code.sub (bM Tryz.f3) p
noncomputable def Dw : KK := dP PP (Tryz.f3).results.toList
noncomputable def amY : KK := CQ (FN [1, 1, 1, 1]) Dw bA Dw
noncomputable def pZ : OV := amY (ls [u, x1, u, u, u, u, x6, x7, u, x9] 45) H
noncomputable def ac5 : KK := CQ (FN [1, 1, 1, 1, 1]) Dw bA Dw
noncomputable def amW : KK := en R4 ac5
noncomputable def p0 : OV := ac5 (ls [u, u, u, u, u, u, x6, x7] 47) H
noncomputable def amZ : KK := CQ (FN [1, 1, 1, 1, 0, 1]) amW bA Dw
noncomputable def p6 : OV := amZ (ls [u, x1, u, u, u, u, x6, x7, u, x9, u, x11] 43) H
noncomputable def ac9 : KX := BX 0 amW bA
noncomputable def T4 : KX := qz R4 ac9
noncomputable def ac6 : KK := xy (FN [1, 1, 1, 1, 0, 1, 4, 5]) T4 Dw
noncomputable def amX : KK := en B7 ac6
noncomputable def iF : OV := ac6 (ls [u, x1, u, u, u, u, x6, x7, u, x9, u, x11] 43) H
noncomputable def am0 : KK := CQ (FN [1, 1, 1, 1, 0, 1, 4, 5, 1]) amX T4 Dw
noncomputable def p7 : OV := am0 (ls [u, x1, u, u, u, u, x6, x7, u, x9, u, x11] 43) H
noncomputable def ac7 : KK := CQ (FN [1, 1, 1, 1, 0, 1, 4, 5, 1, 1]) amX T4 Dw
noncomputable def aqO : KK := en B7 ac7
noncomputable def p8 : OV := ac7 (ls [u, x1, u, u, u, u, x6, x7, u, x9, u, x11] 43) H
noncomputable def aoQ : KX := BX 1 aqO T4
noncomputable def jm : OV := ac9 0 (ls [u, u, u, u, u, u, x6, x7] 47) H
theorem q5 : ar 36028797018963903 Dw := rf
theorem ak1 : ar 36028797018963261 amY := rc q5 aB q5
theorem Jx : ar R4 ac5 := rc q5 aB q5
theorem ak2 : ar B7 amZ := rc (cd Jx) aB q5
theorem vS : ∀ i, ar R4 (ac9 i) := rb (cd Jx) aB
theorem Bu : ar B7 ac6 := rl (cx vS) q5
theorem ak3 : ar B7 am0 := rc (cd Bu) (cx vS) q5
theorem T3 : ar B7 ac7 := rc (cd Bu) (cx vS) q5
theorem ac8 : ∀ i, ar B7 (aoQ i) := rb (cd T3) (cx vS)
theorem uf : p0 x6 x7 H =
 (aA 2 x7 H).bind fun b =>
 (FF lc [b] H).bind fun a =>
 some (a.1, a.2) :=
 (by kernel_rfl)
theorem ui : p8 x1 x6 x7 x9 x11 H =
 (ai .other .add x11 (vi 1)).bind fun a =>
 iF x1 x6 x7 x9 a H :=
 (by kernel_rfl)
theorem uh : p7 x1 x6 x7 x9 x11 H =
 (aA 2 x7 H).bind fun c =>
 (ai .other .rem x11 (vi 3)).bind fun d =>
 ldN 4 [.i 4 x11] x1 H fun e =>
 (FF ur [e, x11] H).bind fun b =>
 b7 (aA 2 x7 b.2) (aA 2 x7 H) <|
 (FF ry [c, d, x11, b.1, x9, (vi 40)] b.2).bind fun a =>
 (ag a.1 0).bind fun k =>
 (ag a.1 1).bind fun f =>
 (ag a.1 2).bind fun g =>
 (oc .not g).bind fun j =>
 av j
 (some ((vb false), a.2))
 (p8 x1 x6 x7 f x11 a.2) :=
 (pt rfl 0 T3 (bt rfl (FN [1, 1, 1, 1, 0, 1, 4, 5, 1, 0, 4]) 1 ac8 (by kernel_rfl)))
theorem rq : jm x6 x7 H = p0 x6 x7 H :=
 (by kernel_rfl)
theorem mz : iF x1 x6 x7 x9 x11 H =
 jd x1 fun b =>
 (ai .other .lss x11 b).bind fun a =>
 (gV a true x11).bind fun c =>
 (gB a true (ai .other .lss c (vi 30))).bind fun d =>
 (bd a d (vb false)).bind fun e =>
 av e
 (p7 x1 x6 x7 x9 x11 H)
 (jm x6 x7 H) :=
 yl rfl Bu (pt rfl 0 ak3 (by kernel_rfl))
theorem ug : p6 x1 x6 x7 x9 x11 H =
 iF x1 x6 x7 x9 x11 H :=
 (bt rfl (FN [1, 1, 1, 1, 0, 1, 4]) 0 vS (li rfl (FN [1, 1, 1, 1, 0, 1, 4, 5]) Bu (by kernel_rfl)))
theorem ue : pZ x1 x6 x7 x9 H =
 p6 x1 x6 x7 x9 (vi 0) H :=
 (pt rfl 0 Jx (pt rfl 0 ak2 (by kernel_rfl)))
noncomputable def JH : OV := bf PP GG FF (FN []) (ls [x0, x1, x2] 52) H Dw bA Dw
theorem Aj {r : Value × AH} (h : (
 aV (Value.cells x0).toList H fun a b =>
 (aA 5 a b).bind fun i =>
 (FF bU [x2, (vi 5)] b).bind fun c =>
 b7 (aA 5 a c.2) (aA 5 a b) <|
 (FF uq [i, c.1] c.2).bind fun d =>
 (ag d.1 0).bind fun j =>
 (ag d.1 1).bind fun k =>
 aV [(.pointer none), (.pointer none)] d.2 fun g l =>
 (cG 2 g j l).bind fun m =>
 (FF rz [] m).bind fun e =>
 (oc .not e.1).bind fun f =>
 (gV f false k).bind fun n =>
 (gB f false (oc .not n)).bind fun o =>
 (bd f (vb true) o).bind fun p =>
 av p
 (some ((vb false), e.2))
 (pZ x1 (vb false) g (vi 0) e.2)) = some r) : FF jq [x0, x1, x2] H = some r :=
 fo (t := JH x0 x1 x2 H) Tryz.func3 (by kernel_rfl) (Eq.trans (pt rfl 3 ak1 (by kernel_rfl)) h)
noncomputable def FO (p : List Nat) : Code := Code.sub (bM Tryz.f9) p
noncomputable def DF : KK := dP PP (Tryz.f9).results.toList
noncomputable def am3 : KK := CQ (FO [1, 1, 1, 1, 1]) DF bA DF
noncomputable def zy : OV := am3 (ls [u, x1, x2, u, x4, x5, u, u, x8] 79) H
noncomputable def aeL : KK := CQ (FO [1, 1, 1, 1, 1, 1]) DF bA DF
noncomputable def am1 : KK := en RY aeL
noncomputable def zz : OV := aeL (ls [u, u, u, u, x4, x5, u, u, x8] 79) H
noncomputable def am4 : KK := CQ (FO [1, 1, 1, 1, 1, 0, 1]) am1 bA DF
noncomputable def zA : OV := am4 (ls [u, x1, x2, u, x4, x5, u, u, x8, x9] 78) H
noncomputable def aeP : KX := BX 0 am1 bA
noncomputable def Um : KX := qz RY aeP
noncomputable def aeM : KK := xy (FO [1, 1, 1, 1, 1, 0, 1, 4, 5]) Um DF
noncomputable def am2 : KK := en B5 aeM
noncomputable def nh : OV := aeM (ls [u, x1, x2, u, x4, x5, u, u, x8, x9] 78) H
noncomputable def am5 : KK := CQ (FO [1, 1, 1, 1, 1, 0, 1, 4, 5, 1]) am2 Um DF
noncomputable def zB : OV := am5 (ls [u, x1, x2, u, x4, x5, u, u, x8, x9] 78) H
noncomputable def aeN : KK := CQ (FO [1, 1, 1, 1, 1, 0, 1, 4, 5, 1, 1]) am2 Um DF
noncomputable def aqP : KK := en B5 aeN
noncomputable def rm : OV := aeN (ls [u, x1, x2, u, x4, x5, u, u, x8, x9] 78) H
noncomputable def aoX : KX := BX 1 aqP Um
noncomputable def tK : OV := aeP 0 (ls [u, u, u, u, x4, x5, u, u, x8] 79) H
theorem q8 : ar 309485009821345068724781007 DF := rf
theorem ak7 : ar 309485009821345068724780745 am3 := rc q8 aB q8
theorem JA : ar RY aeL := rc q8 aB q8
theorem ak8 : ar B5 am4 := rc (cd JA) aB q8
theorem vW : ∀ i, ar RY (aeP i) := rb (cd JA) aB
theorem BA : ar B5 aeM := rl (cx vW) q8
theorem ak9 : ar B5 am5 := rc (cd BA) (cx vW) q8
theorem Ul : ar B5 aeN := rc (cd BA) (cx vW) q8
theorem aeO : ∀ i, ar B5 (aoX i) := rb (cd Ul) (cx vW)
theorem DZ : zz x4 x5 x8 H =
 (aA 2 x8 H).bind fun b =>
 (cG 2 x4 b H).bind fun a =>
 (aA 2 x4 a).bind fun c => some (Value.tuple #[c, (vb true)], a) :=
 (by kernel_rfl)
theorem D4 : rm x1 x2 x4 x5 x8 x9 H =
 (ai .other .add x9 (vi 1)).bind fun a =>
 nh x1 x2 x4 x5 x8 a H :=
 (by kernel_rfl)
theorem D3 : zB x1 x2 x4 x5 x8 x9 H =
 ld [.f 0] x2 H fun d =>
 (ai .other .quo x9 d).bind fun e =>
 ld [.f 1] x2 H fun g =>
 (ai .other .lss e g).bind fun a =>
 (gB a true (aA 2 x8 H)).bind fun i =>
 (gV a true x9).bind fun j =>
 (gV a true x9).bind fun k =>
 (gB a true (ai .other .add (vi 1) k)).bind fun l =>
 (gV a true x9).bind fun m =>
 (gB a true (ai .other .rem m (vi 2))).bind fun n =>
 (gB a true (ai .other .add (vi 2) n)).bind fun o =>
 (gE a true H (FF mB [i, j, l, o] H)).bind fun b =>
 (gB a true (oc .not b.1)).bind fun p =>
 (bd a p (vb false)).bind fun q =>
 av q
 (ic [(0, 1), (1, 1)] [(.pointer none), (.pointer none)] [] fun s =>
 (cG 2 x4 s b.2).bind fun c =>
 (aA 2 x4 c).bind fun t => some (Value.tuple #[t, (vb false)], c))
 (rm x1 x2 x4 x5 x8 x9 b.2) :=
 (pt rfl 0 Ul (bt rfl (FO [1, 1, 1, 1, 1, 0, 1, 4, 5, 1, 0, 4]) 1 aeO (by kernel_rfl)))
theorem yh : tK x4 x5 x8 H = zz x4 x5 x8 H :=
 (by kernel_rfl)
theorem rk : nh x1 x2 x4 x5 x8 x9 H =
 (ai .other .lss x9 x1).bind fun a =>
 av a
 (zB x1 x2 x4 x5 x8 x9 H)
 (tK x4 x5 x8 H) :=
 yl rfl BA (pt rfl 0 ak9 (by kernel_rfl))
theorem D0 : zA x1 x2 x4 x5 x8 x9 H =
 nh x1 x2 x4 x5 x8 x9 H :=
 (bt rfl (FO [1, 1, 1, 1, 1, 0, 1, 4]) 0 vW (li rfl (FO [1, 1, 1, 1, 1, 0, 1, 4, 5]) BA (by kernel_rfl)))
theorem DY : zy x1 x2 x4 x5 x8 H =
 zA x1 x2 x4 x5 x8 (vi 0) H :=
 (pt rfl 0 JA (pt rfl 0 ak8 (by kernel_rfl)))
noncomputable def ae0 : OV := bf PP GG FF (FO []) (ls [x0, x1] 86) H DF bA DF
theorem MH {r : Value × AH} (h : (
 aV (Value.cells x0).toList H fun c y =>
 aV [(.pointer none), (.pointer none)] y fun k m =>
 (aA 5 c m).bind fun z =>
 (FF nW [z] m).bind fun o =>
 (cG 5 c o.1 o.2).bind fun p =>
 (aA 5 c p).bind fun A =>
 (FF rC [A] p).bind fun a =>
 (ag a.1 0).bind fun b =>
 (ag a.1 1).bind fun B =>
 (ai .other .neq B (vi 0)).bind fun l =>
 (gV l false b).bind fun C =>
 (gB l false (ai .ptr .eql C (.pointer none))).bind fun D =>
 (bd l (vb true) D).bind fun d =>
 (gV d false b).bind fun E =>
 gk d false  [.n, .f 0] E a.2 fun G =>
 (gB d false (ai .ptr .eql G (.pointer none))).bind fun I =>
 (bd d (vb true) I).bind fun e =>
 (gV e false b).bind fun J =>
 gk e false  [.n, .f 1] J a.2 fun K =>
 (gB e false (ai .ptr .eql K (.pointer none))).bind fun L =>
 (bd e (vb true) L).bind fun g =>
 (gV g false b).bind fun M =>
 gk g false  [.n, .f 2] M a.2 fun N =>
 (gB g false (ai .ptr .eql N (.pointer none))).bind fun O =>
 (bd g (vb true) O).bind fun i =>
 (gV i false b).bind fun P =>
 gk i false  [.n, .f 3] P a.2 fun Q =>
 (gB i false (ai .ptr .eql Q (.pointer none))).bind fun R =>
 (bd i (vb true) R).bind fun j =>
 (gV j false b).bind fun S =>
 gk j false  [.n, .f 4] S a.2 fun T =>
 (gB j false (ai .ptr .eql T (.pointer none))).bind fun U =>
 (bd j (vb true) U).bind fun V =>
 av V
 (ic [(0, 1), (1, 1)] [(.pointer none), (.pointer none)] [] fun W =>
 (cG 2 k W a.2).bind fun q =>
 (aA 2 k q).bind fun X => some (Value.tuple #[X, (vb false)], q))
 ((aA 5 c a.2).bind fun Y =>
 (FF mG [Y] a.2).bind fun s =>
 ic [(0, 1), (1, 1)] [(.pointer none), (.pointer none)] [(0, b), (1, s.1)] fun Z =>
 aV [(.pointer none), (.pointer none)] s.2 fun w a0 =>
 (cG 2 w Z a0).bind fun a1 =>
 zy x1 c k (vb false) w a1)) = some r) : FF uq [x0, x1] H = some r :=
 fo (t := ae0 x0 x1 H) Tryz.func9 (by kernel_rfl) (Eq.trans (pt rfl 4 ak7 (by kernel_rfl)) h)
theorem M5 {r : Value × AH} (h : (
 (cg (some .u64) x0).bind fun a =>
 (cg (some .u64) x1).bind fun b =>
 (ai .other .rem a b).bind fun c =>
 (cg (some .i64) c).bind fun d =>
 some (d, H)) = some r) : FF bU [x0, x1] H = some r :=
 fo Tryz.func10 (by kernel_rfl) h
noncomputable def tC (p : List Nat) : Code := Code.sub (bM Tryz.f12) p
noncomputable def qP : KK := dP PP (Tryz.f12).results.toList
noncomputable def aa9 : KK := CQ (tC [1, 1]) qP bA qP
noncomputable def wb : OV := aa9 (ls [u, u, u, u, x4, x5, x6, u, u, u, u, u, x12, x13, x14, x15] 36) H
noncomputable def abB : KK := CQ (tC [1, 1, 1]) qP bA qP
noncomputable def aa7 : KK := en R5 abB
noncomputable def abC : KK := CQ (tC [1, 1, 0, 1]) aa7 bA qP
noncomputable def wc : OV := abC (ls [u, u, u, u, x4, x5, x6, u, u, u, u, u, x12, x13, x14, x15, x16] 35) H
noncomputable def O5 : KX := BX 0 aa7 bA
noncomputable def IL : KX := qz R5 O5
noncomputable def O1 : KK := xy (tC [1, 1, 0, 1, 4, 5]) IL qP
noncomputable def aa8 : KK := en B8 O1
noncomputable def lK : OV := O1 (ls [u, u, u, u, x4, x5, x6, u, u, u, u, u, x12, x13, x14, x15, x16] 35) H
noncomputable def abE : KK := CQ (tC [1, 1, 0, 1, 4, 5, 1]) aa8 IL qP
noncomputable def we : OV := abE (ls [u, u, u, u, x4, x5, x6, u, u, u, u, u, x12, x13, x14, x15, x16] 35) H
noncomputable def O3 : KK := CQ (tC [1, 1, 0, 1, 4, 5, 1, 1]) aa8 IL qP
noncomputable def aoK : KK := en B8 O3
noncomputable def wg : OV := O3 (ls [u, u, u, u, x4, x5, x6, u, u, u, u, u, x12, x13, x14, x15, x16] 35) H
noncomputable def akB : KX := BX 1 aoK IL
noncomputable def D8 : OV := O5 0 (ls [u, u, u, u, x4, u, u, u, u, u, u, u, x12, x13, x14] 37) H
theorem mZ : ar 4503599627341823 qP := rf
theorem abA : ar 4503599627308943 aa9 := rc mZ aB mZ
theorem CI : ar R5 abB := rc mZ aB mZ
theorem abD : ar B8 abC := rc (cd CI) aB mZ
theorem qQ : ∀ i, ar R5 (O5 i) := rb (cd CI) aB
theorem vB : ar B8 O1 := rl (cx qQ) mZ
theorem abF : ar B8 abE := rc (cd vB) (cx qQ) mZ
theorem LO : ar B8 O3 := rc (cd vB) (cx qQ) mZ
theorem WK : ∀ i, ar B8 (akB i) := rb (cd LO) (cx qQ)
theorem Ao : wg x4 x5 x6 x12 x13 x14 x15 x16 H =
 (ai .other .add x16 (vi 1)).bind fun a =>
 lK x4 x5 x6 x12 x13 x14 x15 a H :=
 (by kernel_rfl)
theorem An : we x4 x5 x6 x12 x13 x14 x15 x16 H =
 (aA 3 x15 H).bind fun f =>
 (aA 2 x6 H).bind fun g =>
 (ai .other .add x4 x16).bind fun i =>
 (FF lg [f, g, i] H).bind fun a =>
 (ag a.1 0).bind fun j =>
 (ag a.1 1).bind fun k =>
 (ag a.1 2).bind fun l =>
 aV [(vi 0), (.slice none 0 0), (vi 0), (vw 0)] a.2 fun c m =>
 (cG 4 c j m).bind fun b =>
 (oc .not l).bind fun n =>
 av n
 (ic [(0, 1), (1, 1), (2, 1), (3, 1)] [(vi 0), (.slice none 0 0), (vi 0), (vw 0)] [] fun o =>
 (cG 4 x12 o b).bind fun d =>
 (aA 4 x12 d).bind fun p => some (Value.tuple #[p, x4, (vb false)], d))
 (av k
 ((aA 4 c b).bind fun q =>
 (ai .other .add x4 x16).bind fun s =>
 (ai .other .add s (vi 1)).bind fun t =>
 (cG 4 x12 q b).bind fun e =>
 (aA 4 x12 e).bind fun w => some (Value.tuple #[w, t, (vb true)], e))
 (wg x4 x5 x6 x12 x13 x14 x15 x16 b)) :=
 (pt rfl 0 LO (bt rfl (tC [1, 1, 0, 1, 4, 5, 1, 0, 4]) 1 WK (by kernel_rfl)))
theorem Am : lK x4 x5 x6 x12 x13 x14 x15 x16 H =
 (ai .other .lss x16 x5).bind fun a =>
 av a
 (we x4 x5 x6 x12 x13 x14 x15 x16 H)
 (D8 x4 x12 x13 x14 H) :=
 yl rfl vB (pt rfl 0 abF (by kernel_rfl))
theorem Al : wc x4 x5 x6 x12 x13 x14 x15 x16 H =
 lK x4 x5 x6 x12 x13 x14 x15 x16 H :=
 (bt rfl (tC [1, 1, 0, 1, 4]) 0 qQ (li rfl (tC [1, 1, 0, 1, 4, 5]) vB (by kernel_rfl)))
theorem Ak : wb x4 x5 x6 x12 x13 x14 x15 H =
 wc x4 x5 x6 x12 x13 x14 x15 (vi 0) H :=
 (pt rfl 0 CI (pt rfl 0 abD (by kernel_rfl)))
noncomputable def XY : OV := bf PP GG FF (tC []) (ls [x0, x1, x2, x3, x4, x5] 46) H qP bA qP
theorem JI {r : Value × AH} (h : (
 aV (Value.cells x0).toList H fun b e =>
 aV (Value.cells x3).toList e fun f g =>
 aV [(vi 0), (.slice none 0 0), (vi 0), (vw 0)] g fun i a =>
 (aA 2 b a).bind fun j =>
 (aA 4 f a).bind fun k =>
 (FF rA [j, x1, x2, k] a).bind fun c =>
 aV [(.pointer none), (.pointer none), (.pointer none)] c.2 fun d l =>
 (cG 3 d c.1 l).bind fun m =>
 wb x4 x5 b i (vi 0) (vb false) d m) = some r) : FF ry [x0, x1, x2, x3, x4, x5] H = some r :=
 fo (t := XY x0 x1 x2 x3 x4 x5 H) Tryz.func12 (by kernel_rfl) (Eq.trans (pt rfl 1 abA (by kernel_rfl)) h)
noncomputable def vE (p : List Nat) : Code := Code.sub (bM Tryz.f13) p
noncomputable def tD : KK := dP PP (Tryz.f13).results.toList
noncomputable def abI : KK := CQ (vE [1, 1]) tD bA tD
noncomputable def zC : OV := abI (ls [u, x1, x2, u, x4, x5] 31) H
noncomputable def O9 : KK := CQ (vE [1, 1, 1]) tD bA tD
noncomputable def IP : KK := en Ln O9
noncomputable def ja : OV := O9 (ls [u, u, u, u, x4, x5] 31) H
noncomputable def abK : KK := CQ (vE [1, 1, 0, 1]) IP bA tD
noncomputable def zD : OV := abK (ls [u, x1, x2, u, x4, x5, u, u, u, u, x10] 26) H
noncomputable def abO : KX := BX 0 IP bA
noncomputable def abP : KX := qz Ln abO
noncomputable def abM : KK := CQ (vE [1, 1, 0, 1, 4, 1]) IP abP tD
noncomputable def kP : OV := abM (ls [u, x1, x2, u, x4, x5, u, u, u, u, x10, u, u, u, x14] 22) H
noncomputable def S5 : KK := CQ (vE [1, 1, 0, 1, 4, 1, 3, 1]) IP abP tD
noncomputable def lJ : OV := S5 (ls [u, x1, u, u, x4, x5, u, u, u, u, u, u, u, u, u, u, u, u, u, u, u, u, u, u, u, u, u, u, u, u, u, u, x32] 4) H
theorem pc : ar 137438953455 tD := rf
theorem abJ : ar 137438953417 abI := rc pc aB pc
theorem qR : ar Ln O9 := rc pc aB pc
theorem abL : ar 137438952393 abK := rc (cd qR) aB pc
theorem CP : ∀ i, ar Ln (abO i) := rb (cd qR) aB
theorem abN : ar 137438936009 abM := rc (cd qR) (cx CP) pc
theorem WO : ar 133143986125 S5 := rc (cd qR) (cx CP) pc
theorem D6 : ja x4 x5 H =
 (aA 4 x5 H).bind fun b =>
 (cG 4 x4 b H).bind fun a =>
 (aA 4 x4 a).bind fun c => some (c, a) :=
 (by kernel_rfl)
theorem Ai : lJ x1 x4 x5 x32 H =
 av x32
 (st 1 [.f 0] x5 (vi 2) H fun a =>
 ja x4 x5 a)
 (st 1 [.f 0] x5 (vi 3) H fun b =>
 st 1 [.f 3] x5 x1 b fun c =>
 ja x4 x5 c) :=
 (by kernel_rfl)
theorem rn : kP x1 x2 x4 x5 x10 x14 H =
 av x14
 (st 1 [.f 0] x5 (vi 1) H fun d =>
 ld [.f 2] x2 d fun i =>
 (FF bU [i, (vi 4)] d).bind fun a =>
 (ai .other .gtr a.1 (vi 0)).bind fun j =>
 av j
 (ld [.f 2] x2 a.2 fun k =>
 (FF bU [k, (vi 5)] a.2).bind fun b =>
 (ai .other .add (vi 1) b.1).bind fun l =>
 ad [.f 3] x2 fun c =>
 (au c b.2).bind fun m =>
 b7 (au c a.2) (au c b.2) <|
 (FF bU [m, (vi 3)] b.2).bind fun e =>
 (ai .other .add (vi 1) e.1).bind fun n =>
 st 1 [.f 2] x5 l e.2 fun o =>
 st 1 [.f 3] x5 n o fun p =>
 ja x4 x5 p)
 (ja x4 x5 a.2))
 ((ai .other .eql x10 (vi 2)).bind fun g =>
 av g
 (lJ x1 x4 x5 g H)
 ((ai .other .eql x10 (vi 3)).bind fun q =>
 lJ x1 x4 x5 q H)) :=
 (ct rfl (vE [1, 1, 0, 1, 4, 1, 2]) (vE [1, 1, 0, 1, 4, 1, 3]) (.tmp 14) (by kernel_rfl) (pt rfl 0 WO (by kernel_rfl)))
theorem D7 : zD x1 x2 x4 x5 x10 H =
 (ai .other .eql x10 (vi 0)).bind fun a =>
 av a
 (kP x1 x2 x4 x5 x10 a H)
 ((ai .other .eql x10 (vi 1)).bind fun b =>
 kP x1 x2 x4 x5 x10 b H) :=
 (bt rfl (vE [1, 1, 0, 1, 4]) 0 CP (pt rfl 0 abN (by kernel_rfl)))
theorem D5 : zC x1 x2 x4 x5 H =
 ld [.f 0] x2 H fun b =>
 (FF bU [b, (vi 5)] H).bind fun a =>
 zD x1 x2 x4 x5 a.1 a.2 :=
 (pt rfl 0 qR (pt rfl 0 abL (by kernel_rfl)))
noncomputable def ae2 : OV := bf PP GG FF (vE []) (ls [x0, x1] 35) H tD bA tD
theorem MJ {r : Value × AH} (h : (
 aV (Value.cells x0).toList H fun a e =>
 aV [(vi 0), (vi 0), (vi 0), (vi 0)] e fun f b =>
 (aA 4 a b).bind fun g =>
 (FF rD [g] b).bind fun c =>
 aV [(vi 0), (vi 0), (vi 0), (vi 0)] c.2 fun d i =>
 (cG 4 d c.1 i).bind fun j =>
 zC x1 a f d j) = some r) : FF ur [x0, x1] H = some r :=
 fo (t := ae2 x0 x1 H) Tryz.func13 (by kernel_rfl) (Eq.trans (pt rfl 1 abJ (by kernel_rfl)) h)
theorem yi {r : Value × AH} (h : (
 aV (Value.cells x0).toList H fun e d =>
 ld [.f 0] e d fun o =>
 ld [.n, .f 0] o d fun p =>
 (FF gW [p] d).bind fun b =>
 ad [.f 1] e fun g =>
 (au g b.2).bind fun q =>
 b7 (au g d) (au g b.2) <|
 ad [.n, .f 5] q fun i =>
 (au i b.2).bind fun s =>
 b7 (au i d) (au i b.2) <|
 ad [.n, .f 2] s fun j =>
 (au j b.2).bind fun t =>
 b7 (au j d) (au j b.2) <|
 (FF eg [b.1, t] b.2).bind fun a =>
 gk a.1 true  [.f 0] e a.2 fun w =>
 (gE a.1 true a.2 (FF afF [w] a.2)).bind fun c =>
 FQ a.1 true  [.f 1] e fun k =>
 (gB a.1 true (au k c.2)).bind fun y =>
 b7 (au k a.2) (au k c.2) <|
 FQ a.1 true  [.n, .f 13] y fun l =>
 (gB a.1 true (au l c.2)).bind fun z =>
 b7 (au l a.2) (au l c.2) <|
 (gE a.1 true c.2 (FF pE [c.1, z, (.func (.func eM) #[] #[])] c.2)).bind fun m =>
 (bd a.1 m.1 (vb false)).bind fun A =>
 some (A, m.2)) = some r) : FF lc [x0] H = some r :=
 fo Tryz.func14 (by kernel_rfl) h
theorem wl {r : Value × AH} (h : (
 ld [.n, .f 1] x0 H fun b =>
 (FF afK [b] H).bind fun a =>
 some (a.1, a.2)) = some r) : FF gW [x0] H = some r :=
 fo Tryz.func18 (by kernel_rfl) h
noncomputable def ab4 (p : List Nat) : Code := Code.sub (bM Tryz.f19) p
noncomputable def Dp : KK := dP PP (Tryz.f19).results.toList
noncomputable def ab5 : KK := CQ (ab4 [1, 1, 1]) Dp bA Dp
noncomputable def wh : OV := ab5 (ls [u, x1, u, u, x4, u, u, x7, x8, x9] 26) H
noncomputable def ab7 : KK := CQ (ab4 [1, 1, 1, 1]) Dp bA Dp
noncomputable def pD : OV := ab7 (ls [u, u, u, u, u, u, u, u, x8, x9] 26) H
theorem Bq : ar 68719476479 Dp := rf
theorem ab6 : ar 68719475821 ab5 := rc Bq aB Bq
theorem ab8 : ar 68719475967 ab7 := rc Bq aB Bq
theorem qa : pD x8 x9 H =
 (aA 3 x9 H).bind fun b =>
 (cG 3 x8 b H).bind fun a =>
 (aA 3 x8 a).bind fun c => some (c, a) :=
 (by kernel_rfl)
theorem p9 : wh x1 x4 x7 x8 x9 H =
 ld [.f 0] x7 H fun c =>
 (ai .other .eql c (vi 3)).bind fun d =>
 av d
 (ld [.f 0] x4 H fun e =>
 (aA 4 x7 H).bind fun g =>
 (FF yq [e, x1, g] H).bind fun a =>
 st 1 [.f 0] x9 a.1 a.2 fun i =>
 pD x8 x9 i)
 (ld [.f 0] x4 H fun j =>
 (aA 4 x7 H).bind fun k =>
 (FF yu [j, x1, k] H).bind fun b =>
 st 1 [.f 1] x9 b.1 b.2 fun l =>
 pD x8 x9 l) :=
 (pt rfl 0 ab8 (by kernel_rfl))
noncomputable def XZ : OV := bf PP GG FF (ab4 []) (ls [x0, x1, x2, x3] 32) H Dp bA Dp
theorem JJ {r : Value × AH} (h : (
 aV (Value.cells x0).toList H fun a i =>
 aV (Value.cells x3).toList i fun c j =>
 aV [(.pointer none), (.pointer none), (.pointer none)] j fun k d =>
 (aA 2 a d).bind fun l =>
 (FF j5 [l, x1, x2] d).bind fun b =>
 ld [.f 1] a b.2 fun m =>
 (aA 4 c b.2).bind fun n =>
 (FF kw [m, x1, n] b.2).bind fun e =>
 ic [(0, 1), (1, 1), (2, 1)] [(.pointer none), (.pointer none), (.pointer none)] [(2, e.1)] fun o =>
 aV [(.pointer none), (.pointer none), (.pointer none)] e.2 fun g p =>
 (cG 3 g o p).bind fun q =>
 wh x1 a c k g q) = some r) : FF rA [x0, x1, x2, x3] H = some r :=
 fo (t := XZ x0 x1 x2 x3 H) Tryz.func19 (by kernel_rfl) (Eq.trans (pt rfl 2 ab6 (by kernel_rfl)) h)
end
section
variable (x0 x1 x2 x3 x4 x5 x6 x7 x8 x9 x10 x11 x13 x14 x15 x16 x35 x48 x51 x93 x97 x112 x133 x151 x171 x186 x197 x242 x248 x272 x283 x297 : Value) (H : AH)
noncomputable def TU (p : List Nat) : Code := Code.sub (bM Tryz.f20) p
noncomputable def Dq : KK := dP PP (Tryz.f20).results.toList
noncomputable def ab9 : KK := CQ (TU [1, 1, 1]) Dq bA Dq
noncomputable def oI : OV := ab9 (ls [u, u, x2, x3, x4, u, x6, x7, x8, x9, x10, x11] 62) H
noncomputable def PB : KK := CQ (TU [1, 1, 1, 1]) Dq bA Dq
noncomputable def aoL : KK := en aaB PB
noncomputable def gS : OV := PB (ls [u, u, u, x3, x4, u, x6, x7, x8, x9, x10, x11] 62) H
noncomputable def akW : KX := BX 0 aoL bA
theorem Br : ar 18889465931478580854335 Dq := rf
theorem acA : ar 18889465931478580850723 ab9 := rc Br aB Br
theorem Mm : ar aaB PB := rc Br aB Br
theorem Xt : ∀ i, ar aaB (akW i) := rb (cd Mm) aB
theorem tf : gS x3 x4 x6 x7 x8 x9 x10 x11 H =
 (aA 4 x9 H).bind fun m =>
 (ai .bool .eql x10 x11).bind fun d =>
 (gB d true (aA 4 x9 H)).bind fun o =>
 gk d true  [.f 2] x3 H fun p =>
 (gV d true x11).bind fun q =>
 (gE d true H (FF pG [p, q] H)).bind fun e =>
 b7 (aA 4 x9 e.2) (aA 4 x9 H) <|
 b7 (aA 4 x9 e.2) (aA 4 x9 H) <|
 (gE d true e.2 (FF pF [o, e.1] e.2)).bind fun c =>
 b7 (aA 4 x9 c.2) (aA 4 x9 H) <|
 (bd d c.1 (vb false)).bind fun a =>
 gk a true  [.f 0] x4 c.2 fun s =>
 gk a true  [.n, .f 0] s c.2 fun t =>
 (gE a true c.2 (FF kq [t] c.2)).bind fun b =>
 b7 (aA 4 x9 b.2) (aA 4 x9 H) <|
 FQ a true  [.f 1] x4 fun g =>
 (gB a true (au g b.2)).bind fun w =>
 b7 (au g c.2) (au g b.2) <|
 FQ a true  [.n, .f 5] w fun i =>
 (gB a true (au i b.2)).bind fun y =>
 b7 (au i c.2) (au i b.2) <|
 FQ a true  [.n, .f 2] y fun j =>
 (gB a true (au j b.2)).bind fun k =>
 b7 (au j c.2) (au j b.2) <|
 (G3 (yv a) true (jd k some) (some undef)).bind fun z =>
 b7 (alD k) (alD k) <|
 (gB a true (ai .other .eql b.1 z)).bind fun A =>
 (bd a A (vb false)).bind fun B =>
 (cG 4 x6 m b.2).bind fun l =>
 b7 (au g l) (au g b.2) <|
 b7 (au i l) (au i b.2) <|
 b7 (au j l) (au j b.2) <|
 b7 (alD k) (alD k) <|
 (aA 4 x6 l).bind fun C => some (Value.tuple #[C, x11, B], l) :=
 (by kernel_rfl)
theorem lq : oI x2 x3 x4 x6 x7 x8 x9 x10 x11 H =
 ld [.f 0] x3 H fun j =>
 (ai .ptr .neq j (.pointer none)).bind fun k =>
 av k
 (ld [.f 0] x3 H fun l =>
 (FF yp [l, x2] H).bind fun a =>
 (ag a.1 0).bind fun m =>
 (ag a.1 1).bind fun n =>
 (cG 4 x9 m a.2).bind fun c =>
 ld [.f 2] x3 c fun o =>
 (FF eO [o, x2] c).bind fun d =>
 gS x3 x4 x6 x7 x8 x9 n d.1 d.2)
 (ld [.f 1] x3 H fun p =>
 (ai .ptr .neq p (.pointer none)).bind fun q =>
 av q
 (ld [.f 1] x3 H fun s =>
 (FF mJ [s, x2] H).bind fun b =>
 (ag b.1 0).bind fun t =>
 (ag b.1 1).bind fun w =>
 (cG 4 x9 t b.2).bind fun e =>
 ld [.f 2] x3 e fun y =>
 (FF bp [y, x2] e).bind fun g =>
 gS x3 x4 x6 x7 x8 x9 w g.1 g.2)
 ((aA 4 x9 H).bind fun z =>
 (cG 4 x6 z H).bind fun i =>
 (aA 4 x6 i).bind fun A => some (Value.tuple #[A, (vb false), (vb false)], i))) :=
 (pt rfl 0 Mm (bt rfl (TU [1, 1, 1, 0, 4]) 0 Xt (by kernel_rfl)))
noncomputable def FS : OV := bf PP GG FF (TU []) (ls [x0, x1, x2] 71) H Dq bA Dq
theorem oJ {r : Value × AH} (h : (
 aV (Value.cells x0).toList H fun a b =>
 aV (Value.cells x1).toList b fun c d =>
 aV [(vi 0), (.slice none 0 0), (vi 0), (vw 0)] d fun e f =>
 aV [(vi 0), (.slice none 0 0), (vi 0), (vw 0)] f fun g i =>
 oI x2 a c e (vb false) (vb false) g (vb false) (vb false) i) = some r) : FF lg [x0, x1, x2] H = some r :=
 fo (t := FS x0 x1 x2 H) Tryz.func20 (by kernel_rfl) (Eq.trans (pt rfl 2 acA (by kernel_rfl)) h)
theorem tj {r : Value × AH} (h : (
 (FF fX [x0, x1] H).bind fun a =>
 (oc .not a.1).bind fun b =>
 av b
 (some ((.pointer none), a.2))
 (ld [.n, .f 10] x0 a.2 fun c =>
 ld [.i 4 x1, .f 3] c a.2 fun d =>
 some (d, a.2))) = some r) : FF fW [x0, x1] H = some r :=
 fo Tryz.func21 (by kernel_rfl) h
noncomputable def tE (p : List Nat) : Code := Code.sub (bM Tryz.f25) p
noncomputable def qV : KK := dP PP (Tryz.f25).results.toList
noncomputable def acD : KK := CQ (tE [1, 1, 1, 1]) qV bA qV
noncomputable def afY : OV := acD (ls [u, u, x2, x3, x4] 25) H
noncomputable def PC : KK := CQ (tE [1, 1, 1, 1, 1]) qV bA qV
noncomputable def acB : KK := en 1073741803 PC
noncomputable def afZ : OV := PC (ls [u, u, x2, u, x4] 25) H
noncomputable def acF : KK := CQ (tE [1, 1, 1, 1, 0, 1]) acB bA qV
noncomputable def af0 : OV := acF (ls [u, u, x2, u, x4, u, u, u, u, u, u, u, u, u, x14, x15, x16] 13) H
noncomputable def PF : KX := BX 0 acB bA
noncomputable def Jv : KX := qz 1073741803 PF
noncomputable def PD : KK := xy (tE [1, 1, 1, 1, 0, 1, 4, 5]) Jv qV
noncomputable def acC : KK := en Cd PD
noncomputable def JV : OV := PD (ls [u, u, x2, u, x4, u, u, u, u, u, u, u, u, u, x14, x15, x16] 13) H
noncomputable def acH : KK := CQ (tE [1, 1, 1, 1, 0, 1, 4, 5, 1, 1]) acC Jv qV
noncomputable def af1 : OV := acH (ls [u, u, x2, u, x4, u, u, u, u, u, u, u, u, u, x14, x15, x16] 13) H
noncomputable def PE : KK := CQ (tE [1, 1, 1, 1, 0, 1, 4, 5, 1, 1, 1]) acC Jv qV
noncomputable def aoM : KK := en Cd PE
noncomputable def af2 : OV := PE (ls [u, u, x2, u, x4, u, u, u, u, u, u, u, u, u, x14, x15, x16] 13) H
noncomputable def aoN : KX := BX 1 aoM Jv
noncomputable def MZ : OV := PF 0 (ls [u, u, x2, u, x4] 25) H
theorem m7 : ar 1073741819 qV := rf
theorem acE : ar 1073741795 acD := rc m7 aB m7
theorem Ds : ar 1073741803 PC := rc m7 aB m7
theorem acG : ar Cd acF := rc (cd Ds) aB m7
theorem qW : ∀ i, ar 1073741803 (PF i) := rb (cd Ds) aB
theorem vP : ar Cd PD := rl (cx qW) m7
theorem acI : ar Cd acH := rc (cd vP) (cx qW) m7
theorem Mn : ar Cd PE := rc (cd vP) (cx qW) m7
theorem acJ : ∀ i, ar Cd (aoN i) := rb (cd Mn) (cx qW)
theorem Yb : afZ x2 x4 H =
 some (x4, H) :=
 (by kernel_rfl)
theorem Ye : af2 x2 x4 x14 x15 x16 H =
 (ai .other .add x16 (vi 1)).bind fun a =>
 JV x2 x4 x14 x15 a H :=
 (by kernel_rfl)
theorem Yd : af1 x2 x4 x14 x15 x16 H =
 ldN 7 [.i 7 x16] x14 H fun g =>
 aV [(vi 0), (vi 0), (vi 0), (vi 0), (.slice none 0 0), (vi 0), (vw 0)] H fun a j =>
 (cG 7 a g j).bind fun b =>
 ldN 4 [.f 3] a b fun k =>
 (FF nk [k] b).bind fun c =>
 st 4 [.f 3] a c.1 c.2 fun d =>
 (aA 7 a d).bind fun l =>
 FD 1 7 [(vi 0), (vi 0), (vi 0), (vi 0), (.slice none 0 0), (vi 0), (vw 0)] [(0, l)] d fun m n =>
 (fN 7 72 x4 m n).bind fun e =>
 af2 x2 e.1 x14 x15 x16 e.2 :=
 (pt rfl 0 Mn (bt rfl (tE [1, 1, 1, 1, 0, 1, 4, 5, 1, 1, 0, 4]) 1 acJ (by kernel_rfl)))
theorem M1 : MZ x2 x4 H = afZ x2 x4 H :=
 (by kernel_rfl)
theorem G6 : JV x2 x4 x14 x15 x16 H =
 (ai .other .lss x16 x15).bind fun a =>
 av a
 (af1 x2 x4 x14 x15 x16 H)
 (MZ x2 x4 H) :=
 yl rfl vP (pt rfl 1 acI (by kernel_rfl))
theorem Yc : af0 x2 x4 x14 x15 x16 H =
 JV x2 x4 x14 x15 x16 H :=
 (bt rfl (tE [1, 1, 1, 1, 0, 1, 4]) 0 qW (li rfl (tE [1, 1, 1, 1, 0, 1, 4, 5]) vP (by kernel_rfl)))
theorem Ya : afY x2 x3 x4 H =
 jd x3 fun a =>
 af0 x2 x4 x3 a (vi 0) H :=
 (pt rfl 0 Ds (pt rfl 0 acG (by kernel_rfl)))
noncomputable def pPP : OV := bf PP GG FF (tE []) (ls [x0] 29) H qV bA qV
theorem ao3 {r : Value × AH} (h : (
 ld [.n, .f 12] x0 H fun b =>
 (FF afL [b] H).bind fun a =>
 (FF afN [a.1, (.func (.func dM) #[] #[])] a.2).bind fun c =>
 afY (.slice none 0 0) a.1 (.slice none 0 0) c.2) = some r) : FF afF [x0] H = some r :=
 fo (t := pPP x0 H) Tryz.func25 (by kernel_rfl) (Eq.trans (pt rfl 3 acE (by kernel_rfl)) h)
theorem tr {r : Value × AH} (h : (
 ad [.n, .f 0] x0 fun b =>
 (au b H).bind fun d =>
 (FF jx [x2, x3] H).bind fun c =>
 b7 (au b c.2) (au b H) <|
 (FF dy [d, x1, c.1] c.2).bind fun a =>
 (ai .other .eql a.1 (vw 0)).bind fun e =>
 av e
 (some (Value.tuple #[(vi 0), (vi 0), (vb false)], a.2))
 ((ai .other .shr a.1 (vw 32)).bind fun g =>
 (cg (some .i64) g).bind fun i =>
 (ai .other .sub i (vi 1)).bind fun j =>
 (ai .other .and a.1 (vw 4294967295)).bind fun k =>
 (cg (some .i64) k).bind fun l =>
 some (Value.tuple #[j, l, (vb true)], a.2))) = some r) : FF fY [x0, x1, x2, x3] H = some r :=
 fo Tryz.func27 (by kernel_rfl) h
theorem uz {r : Value × AH} (h : (
 aV [(vi 0), (vi 0), (vw 0)] H fun a g =>
 (FF fX [x0, x2] g).bind fun b =>
 (oc .not b.1).bind fun j =>
 av j
 (ic [(0, 1), (1, 1), (2, 1)] [(vi 0), (vi 0), (vw 0)] [] fun k =>
 (cG 3 a k b.2).bind fun d =>
 (aA 3 a d).bind fun l => some (l, d))
 (ld [.n, .f 0] x0 b.2 fun m =>
 ic [(0, 1), (1, 1), (2, 1)] [(vi 0), (vi 0), (vi 0)] [(0, (vi 13)), (1, x2)] fun o =>
 (FF mC [m, x1, o] b.2).bind fun c =>
 ld [.n, .f 10] x0 c.2 fun p =>
 ldN 3 [.i 4 x2, .f 0] p c.2 fun q =>
 (cG 3 a q c.2).bind fun e =>
 (aA 3 a e).bind fun s => some (s, e))) = some r) : FF jt [x0, x1, x2] H = some r :=
 fo Tryz.func28 (by kernel_rfl) h
theorem sf {r : Value × AH} (h : (
 ld [.n, .f 1] x0 H fun a =>
 (ai .other .rem x1 a).bind fun b =>
 ld [.n, .f 1] x0 H fun c =>
 (ai .other .add b c).bind fun d =>
 ld [.n, .f 1] x0 H fun e =>
 (ai .other .rem d e).bind fun g =>
 some (g, H)) = some r) : FF ft [x0, x1] H = some r :=
 fo Tryz.func29 (by kernel_rfl) h
theorem tq {r : Value × AH} (h : (
 ad [.n, .f 0] x0 fun a =>
 (au a H).bind fun d =>
 (FF kA [x2] H).bind fun b =>
 b7 (au a b.2) (au a H) <|
 (FF fC [d, x1, b.1, (vw 0), (vw 1)] b.2).bind fun c =>
 some (c.1, c.2)) = some r) : FF ee [x0, x1, x2] H = some r :=
 fo Tryz.func30 (by kernel_rfl) h
noncomputable def acK (p : List Nat) : Code := Code.sub (bM Tryz.f31) p
noncomputable def Dt : KK := dP PP (Tryz.f31).results.toList
noncomputable def acL : KK := CQ (acK [1, 1]) Dt bA Dt
noncomputable def rN : OV := acL (ls [u, x1, x2, x3] 29) H
noncomputable def acN : KK := CQ (acK [1, 1, 1]) Dt bA Dt
noncomputable def jD : OV := acN (ls [u, x1, x2, x3] 29) H
theorem Bt : ar 8589934587 Dt := rf
theorem acM : ar 8589934577 acL := rc Bt aB Bt
theorem acO : ar 8589934577 acN := rc Bt aB Bt
theorem wD : jD x1 x2 x3 H =
 ld [.f 0] x1 H fun k =>
 (FF bU [k, (vi 4)] H).bind fun b =>
 (ai .other .add (vi 1) b.1).bind fun l =>
 ad [.f 1] x1 fun g =>
 (au g b.2).bind fun m =>
 b7 (au g H) (au g b.2) <|
 (FF bU [m, (vi 4)] b.2).bind fun c =>
 (ai .other .add (vi 1) c.1).bind fun n =>
 ad [.f 2] x1 fun e =>
 (au e c.2).bind fun o =>
 b7 (au e H) (au e c.2) <|
 b7 (au e b.2) (au e c.2) <|
 (FF bU [o, (vi 6)] c.2).bind fun d =>
 (ai .other .add (vi 1) d.1).bind fun p =>
 ad [.f 3] x1 fun a =>
 (au a d.2).bind fun q =>
 b7 (au a H) (au a d.2) <|
 b7 (au a b.2) (au a d.2) <|
 b7 (au a c.2) (au a d.2) <|
 (FF bU [q, (vi 12)] d.2).bind fun i =>
 ic [(0, 1), (1, 1), (2, 1), (3, 1), (4, 1)] [(vi 0), (vi 0), (vi 0), (vi 0), (vw 0)] [(0, l), (1, n), (2, p), (3, i.1), (4, x3)] fun s =>
 (cG 5 x2 s i.2).bind fun j =>
 (aA 5 x2 j).bind fun t => some (t, j) :=
 (by kernel_rfl)
theorem wC : rN x1 x2 x3 H =
 ld [.f 4] x1 H fun a =>
 (ai .other .rem a (vw 4)).bind fun b =>
 (ai .other .eql b (vw 3)).bind fun c =>
 av c
 (ld [.f 4] x1 H fun d =>
 (ai .other .rem d (vw 4611686018427387904)).bind fun e =>
 (ai .other .add (vw 1) e).bind fun g =>
 jD x1 x2 g H)
 (jD x1 x2 x3 H) :=
 (pt rfl 0 acO (by kernel_rfl))
noncomputable def M4 : OV := bf PP GG FF (acK []) (ls [x0] 32) H Dt bA Dt
theorem En {r : Value × AH} (h : (
 aV (Value.cells x0).toList H fun a c =>
 aV [(vi 0), (vi 0), (vi 0), (vi 0), (vw 0)] c fun d b =>
 ld [.f 4] a b fun e =>
 (ai .other .rem e (vw 5000)).bind fun g =>
 (ai .other .add (vw 1) g).bind fun i =>
 rN a d i b) = some r) : FF nW [x0] H = some r :=
 fo (t := M4 x0 H) Tryz.func31 (by kernel_rfl) (Eq.trans (pt rfl 1 acM (by kernel_rfl)) h)
theorem JW {r : Value × AH} (h : (
 aV (Value.cells x0).toList H fun a m =>
 (aA 5 a m).bind fun n =>
 (FF nV [n] m).bind fun j =>
 (oc .not j.1).bind fun o =>
 av o
 (some (Value.tuple #[(.pointer none), (vi 1)], j.2))
 ((FF yr [] j.2).bind fun b =>
 ld [.f 0] a b.2 fun p =>
 (FF rx [b.1, p] b.2).bind fun c =>
 ad [.f 0] a fun k =>
 (au k c.2).bind fun q =>
 b7 (au k b.2) (au k c.2) <|
 ad [.f 1] a fun l =>
 (au l c.2).bind fun s =>
 b7 (au l b.2) (au l c.2) <|
 (FF rH [b.1, q, s] c.2).bind fun d =>
 ad [.f 2] a fun i =>
 (au i d.2).bind fun t =>
 b7 (au i b.2) (au i d.2) <|
 b7 (au i c.2) (au i d.2) <|
 (FF us [b.1, t] d.2).bind fun e =>
 (aA 5 a e.2).bind fun w =>
 b7 (aA 5 a b.2) (aA 5 a e.2) <|
 b7 (aA 5 a c.2) (aA 5 a e.2) <|
 b7 (aA 5 a d.2) (aA 5 a e.2) <|
 (FF ul [w] e.2).bind fun g =>
 (aA 5 a g.2).bind fun y =>
 b7 (aA 5 a b.2) (aA 5 a g.2) <|
 b7 (aA 5 a c.2) (aA 5 a g.2) <|
 b7 (aA 5 a d.2) (aA 5 a g.2) <|
 b7 (aA 5 a e.2) (aA 5 a g.2) <|
 FU g.2 fun z A =>
 ic [(0, 1), (1, 1), (2, 1), (3, 1), (4, 1), (5, 5), (10, 1), (11, 1), (12, 1)] [(.pointer none), (.pointer none), (.pointer none), (.pointer none), (.pointer none), (vi 0), (vi 0), (vi 0), (vi 0), (vw 0), (.slice none 0 0), (.map none), (.slice none 0 0)] [(0, b.1), (1, c.1), (2, d.1), (3, e.1), (4, g.1), (5, y), (7, z)] fun B =>
 aV (Value.cells B).toList A fun C D =>
 some (Value.tuple #[C, (vi 0)], D))) = some r) : FF rC [x0] H = some r :=
 fo Tryz.func32 (by kernel_rfl) h
theorem AQ {r : Value × AH} (h : (
 aV (Value.cells x0).toList H fun a m =>
 ic [(0, 1), (1, 1), (2, 1)] [(.slice none 0 0), (.slice none 0 0), (.slice none 0 0)] [] fun n =>
 aV (Value.cells n).toList m fun i b =>
 (aA 5 a b).bind fun o =>
 ld [.f 0] a b fun p =>
 (FF mF [i, p] b).bind fun c =>
 b7 (aA 5 a c.2) (aA 5 a b) <|
 ad [.f 0] a fun j =>
 (au j c.2).bind fun q =>
 b7 (au j b) (au j c.2) <|
 ad [.f 1] a fun k =>
 (au k c.2).bind fun s =>
 b7 (au k b) (au k c.2) <|
 (FF mH [i, q, s] c.2).bind fun d =>
 b7 (aA 5 a d.2) (aA 5 a b) <|
 ad [.f 2] a fun g =>
 (au g d.2).bind fun t =>
 b7 (au g b) (au g d.2) <|
 b7 (au g c.2) (au g d.2) <|
 (FF nY [i, t] d.2).bind fun e =>
 b7 (aA 5 a e.2) (aA 5 a b) <|
 (aA 5 a e.2).bind fun w =>
 b7 (aA 5 a b) (aA 5 a e.2) <|
 b7 (aA 5 a c.2) (aA 5 a e.2) <|
 b7 (aA 5 a d.2) (aA 5 a e.2) <|
 (FF nX [w] e.2).bind fun l =>
 b7 (aA 5 a l.2) (aA 5 a b) <|
 ic [(0, 5), (5, 1), (6, 1), (7, 1), (8, 1), (9, 1), (10, 1), (11, 1), (12, 1), (13, 1)] [(vi 0), (vi 0), (vi 0), (vi 0), (vw 0), (.pointer none), (.pointer none), (.pointer none), (.pointer none), (.pointer none), (.slice none 0 0), (.slice none 0 0), (.slice none 0 0), (.slice none 0 0)] [(0, o), (1, i), (2, c.1), (3, d.1), (4, e.1), (5, l.1)] fun y =>
 aV (Value.cells y).toList l.2 fun z A =>
 some (z, A)) = some r) : FF mG [x0] H = some r :=
 fo Tryz.func33 (by kernel_rfl) h
theorem Ah {r : Value × AH} (h : (
 aV (Value.cells x0).toList H fun i l =>
 ld [.f 1] i l fun s =>
 ldN 5 [.n, .f 0] s l fun t =>
 aV [(vi 0), (vi 0), (vi 0), (vi 0), (vw 0)] l fun g w =>
 (cG 5 g t w).bind fun p =>
 ld [.f 4] g p fun y =>
 (FF ks [y, x2] p).bind fun m =>
 (ag m.1 0).bind fun z =>
 (ag m.1 1).bind fun a3 =>
 ic [(0, 1), (1, 1), (2, 1)] [(vi 0), (vi 0), (vw 0)] [(0, x1), (1, x3), (2, z)] fun A =>
 aV [(vi 0), (vi 0), (vw 0)] m.2 fun j B =>
 (cG 3 j A B).bind fun k =>
 ld [.f 0] i k fun C =>
 (aA 3 j k).bind fun D =>
 (FF d8 [C, (vi 0), D] k).bind fun d =>
 ad [.f 1] i fun o =>
 (au o d.2).bind fun E =>
 b7 (au o k) (au o d.2) <|
 (aA 3 j d.2).bind fun G =>
 b7 (aA 3 j k) (aA 3 j d.2) <|
 (FF gX [E, (vi 0), G] d.2).bind fun c =>
 (ai .other .eql d.1 c.1).bind fun a =>
 gk a true  [.f 0] i c.2 fun I =>
 gk a true  [.n, .f 2] I c.2 fun J =>
 (gV a true x1).bind fun K =>
 gk a true  [.f 0] g c.2 fun L =>
 (gB a true (ai .other .rem K L)).bind fun M =>
 (gV a true x1).bind fun N =>
 gk a true  [.f 0] g c.2 fun O =>
 (gB a true (ai .other .quo N O)).bind fun P =>
 (gV a true x1).bind fun Q =>
 (gV a true d.1).bind fun R =>
 (gE a true c.2 (FF gy [J, (vi 0), M, P, Q, R] c.2)).bind fun e =>
 (bd a e.1 (vb false)).bind fun b =>
 gk b true  [.f 1] i e.2 fun S =>
 gk b true  [.n, .f 7] S e.2 fun T =>
 (gV b true x1).bind fun U =>
 gk b true  [.f 0] g e.2 fun V =>
 (gB b true (ai .other .rem U V)).bind fun W =>
 (gV b true x1).bind fun X =>
 gk b true  [.f 0] g e.2 fun Y =>
 (gB b true (ai .other .quo X Y)).bind fun Z =>
 (gV b true x1).bind fun a0 =>
 (gV b true c.1).bind fun a1 =>
 (gE b true e.2 (FF iM [T, (vi 0), W, Z, a0, a1] e.2)).bind fun q =>
 (bd b q.1 (vb false)).bind fun a2 =>
 some (a2, q.2)) = some r) : FF mB [x0, x1, x2, x3] H = some r :=
 fo Tryz.func34 (by kernel_rfl) h
noncomputable def pY (p : List Nat) : Code := Code.sub (bM Tryz.f35) p
noncomputable def qX : KK := dP PP (Tryz.f35).results.toList
noncomputable def acP : KK := CQ (pY [1, 1, 1]) qX bA qX
noncomputable def wz : OV := acP (ls [u, x1, x2, x3] 61) H
noncomputable def PG : KK := CQ (pY [1, 1, 1, 1]) qX bA qX
noncomputable def Du : KK := en RZ PG
noncomputable def dw : OV := PG (ls [u, u, x2, x3] 61) H
noncomputable def acR : KK := CQ (pY [1, 1, 1, 0, 1]) Du bA qX
noncomputable def wA : OV := acR (ls [u, x1, x2, x3, u, u, u, u, u, u, u, u, u, u, u, x15] 49) H
noncomputable def acV : KX := BX 0 Du bA
noncomputable def PH : KX := qz RZ acV
noncomputable def acT : KK := CQ (pY [1, 1, 1, 0, 1, 4, 1]) Du PH qX
noncomputable def wB : OV := acT (ls [u, x1, x2, x3, u, u, u, u, u, u, u, u, u, u, u, x15, u, u, u, u, u, u, u, u, u, u, u, u, u, u, u, u, u, u, u, x35] 29) H
noncomputable def TZ : KK := CQ (pY [1, 1, 1, 0, 1, 4, 1, 3, 1]) Du PH qX
noncomputable def tN : OV := TZ (ls [u, x1, x2, x3, u, u, u, u, u, u, u, u, u, u, u, x15, u, u, u, u, u, u, u, u, u, u, u, u, u, u, u, u, u, u, u, u, u, u, u, u, u, u, u, u, u, u, u, u, x48] 16) H
noncomputable def T0 : KK := CQ (pY [1, 1, 1, 0, 1, 4, 1, 3, 1, 3, 1]) Du PH qX
noncomputable def kB : OV := T0 (ls [u, x1, x2, x3, u, u, u, u, u, u, u, u, u, u, u, x15, u, u, u, u, u, u, u, u, u, u, u, u, u, u, u, u, u, u, u, u, u, u, u, u, u, u, u, u, u, u, u, u, u, u, u, x51] 13) H
theorem m8 : ar 36893488147419103227 qX := rf
theorem acQ : ar 36893488147419103217 acP := rc m8 aB m8
theorem oE : ar RZ PG := rc m8 aB m8
theorem acS : ar 36893488147419070449 acR := rc (cd oE) aB m8
theorem vQ : ∀ i, ar RZ (acV i) := rb (cd oE) aB
theorem acU : ar 36893488113059332081 acT := rc (cd oE) (cx vQ) m8
theorem Xz : ar 36893206672442359793 TZ := rc (cd oE) (cx vQ) m8
theorem XA : ar 36891236347605385201 T0 := rc (cd oE) (cx vQ) m8
theorem AB : dw x2 x3 H =
 (aA 4 x3 H).bind fun b =>
 (cG 4 x2 b H).bind fun a =>
 (aA 4 x2 a).bind fun c => some (c, a) :=
 (by kernel_rfl)
theorem yy : kB x1 x2 x3 x15 x51 H =
 av x51
 (ic [(0, 1), (1, 1), (2, 1), (3, 1)] [(vi 0), (vi 0), (vi 0), (vi 0)] [(0, (vi 4))] fun j =>
 (cG 4 x3 j H).bind fun k =>
 dw x2 x3 k)
 ((ai .other .eql x15 (vi 8)).bind fun l =>
 av l
 (ld [.f 2] x1 H fun m =>
 (FF bU [m, (vi 6)] H).bind fun d =>
 ic [(0, 1), (1, 1), (2, 1), (3, 1)] [(vi 0), (vi 0), (vi 0), (vi 0)] [(0, (vi 5)), (2, d.1)] fun n =>
 (cG 4 x3 n d.2).bind fun o =>
 dw x2 x3 o)
 ((ai .other .eql x15 (vi 9)).bind fun p =>
 av p
 (ic [(0, 1), (1, 1), (2, 1), (3, 1)] [(vi 0), (vi 0), (vi 0), (vi 0)] [(0, (vi 6))] fun q =>
 (cG 4 x3 q H).bind fun s =>
 dw x2 x3 s)
 (ld [.f 2] x1 H fun t =>
 (FF bU [t, (vi 9)] H).bind fun a =>
 (ai .other .add (vi 1) a.1).bind fun w =>
 ad [.f 3] x1 fun c =>
 (au c a.2).bind fun y =>
 b7 (au c H) (au c a.2) <|
 (FF bU [y, (vi 1000)] a.2).bind fun e =>
 st 1 [.f 0] x3 (vi 3) e.2 fun z =>
 st 1 [.f 2] x3 w z fun A =>
 st 1 [.f 3] x3 e.1 A fun g =>
 ld [.f 2] x1 g fun B =>
 (FF bU [B, (vi 13)] g).bind fun b =>
 (ai .other .eql b.1 (vi 12)).bind fun C =>
 av C
 (ld [.f 2] x1 b.2 fun D =>
 (FF bU [D, (vi 65536)] b.2).bind fun i =>
 (ai .other .add (vi 1) i.1).bind fun E =>
 st 1 [.f 2] x3 E i.2 fun G =>
 dw x2 x3 G)
 (dw x2 x3 b.2)))) :=
 (by kernel_rfl)
theorem yx : tN x1 x2 x3 x15 x48 H =
 av x48
 (st 1 [.f 0] x3 (vi 2) H fun b =>
 dw x2 x3 b)
 ((ai .other .eql x15 (vi 6)).bind fun a =>
 av a
 (kB x1 x2 x3 x15 a H)
 ((ai .other .eql x15 (vi 7)).bind fun c =>
 kB x1 x2 x3 x15 c H)) :=
 (ct rfl (pY [1, 1, 1, 0, 1, 4, 1, 3, 1, 2]) (pY [1, 1, 1, 0, 1, 4, 1, 3, 1, 3]) (.tmp 48) (by kernel_rfl) (pt rfl 0 XA (by kernel_rfl)))
theorem AF : wB x1 x2 x3 x15 x35 H =
 av x35
 (ld [.f 2] x1 H fun d =>
 (FF bU [d, (vi 5)] H).bind fun a =>
 (ai .other .add (vi 1) a.1).bind fun e =>
 ad [.f 3] x1 fun b =>
 (au b a.2).bind fun g =>
 b7 (au b H) (au b a.2) <|
 (FF bU [g, (vi 3)] a.2).bind fun c =>
 (ai .other .add (vi 1) c.1).bind fun i =>
 st 1 [.f 0] x3 (vi 1) c.2 fun j =>
 st 1 [.f 2] x3 e j fun k =>
 st 1 [.f 3] x3 i k fun l =>
 dw x2 x3 l)
 ((ai .other .eql x15 (vi 1)).bind fun m =>
 tN x1 x2 x3 x15 m H) :=
 (ct rfl (pY [1, 1, 1, 0, 1, 4, 1, 2]) (pY [1, 1, 1, 0, 1, 4, 1, 3]) (.tmp 35) (by kernel_rfl) (pt rfl 0 Xz (by kernel_rfl)))
theorem AC : wA x1 x2 x3 x15 H =
 (ai .other .eql x15 (vi 0)).bind fun a =>
 wB x1 x2 x3 x15 a H :=
 (bt rfl (pY [1, 1, 1, 0, 1, 4]) 0 vQ (pt rfl 0 acU (by kernel_rfl)))
theorem AA : wz x1 x2 x3 H =
 ld [.f 0] x1 H fun b =>
 (FF bU [b, (vi 10)] H).bind fun a =>
 wA x1 x2 x3 a.1 a.2 :=
 (pt rfl 0 oE (pt rfl 0 acS (by kernel_rfl)))
noncomputable def Yi : OV := bf PP GG FF (pY []) (ls [x0] 64) H qX bA qX
theorem JZ {r : Value × AH} (h : (
 aV (Value.cells x0).toList H fun b j =>
 aV [(vi 0), (vi 0), (vi 0), (vi 0)] j fun c d =>
 ld [.f 1] b d fun k =>
 (FF bU [k, (vi 23)] d).bind fun a =>
 (ai .other .eql a.1 (vi 22)).bind fun l =>
 av l
 ((aA 4 b a.2).bind fun m =>
 (cG 4 c m a.2).bind fun e =>
 (aA 4 c e).bind fun n => some (n, e))
 (ld [.f 1] b a.2 fun o =>
 (FF bU [o, (vi 5)] a.2).bind fun g =>
 ic [(0, 1), (1, 1), (2, 1), (3, 1)] [(vi 0), (vi 0), (vi 0), (vi 0)] [(1, g.1)] fun p =>
 aV [(vi 0), (vi 0), (vi 0), (vi 0)] g.2 fun i q =>
 (cG 4 i p q).bind fun s =>
 wz b c i s)) = some r) : FF rD [x0] H = some r :=
 fo (t := Yi x0 H) Tryz.func35 (by kernel_rfl) (Eq.trans (pt rfl 2 acQ (by kernel_rfl)) h)
theorem pB {r : Value × AH} (h : (
 (FF um [x0, x1, (.func (.func ca) #[] #[])] H).bind fun a =>
 some (a.1, a.2)) = some r) : FF eg [x0, x1] H = some r :=
 fo Tryz.func36 (by kernel_rfl) h
noncomputable def tF (p : List Nat) : Code := Code.sub (bM Tryz.f37) p
noncomputable def qY : KK := dP PP (Tryz.f37).results.toList
noncomputable def acY : KK := CQ (tF [1, 1]) qY bA qY
noncomputable def zt : OV := acY (ls [x0, x1, x2, u, u, u, x6] 23) H
noncomputable def PI : KK := CQ (tF [1, 1, 1]) qY bA qY
noncomputable def acW : KK := en ml PI
noncomputable def zu : OV := PI (ls [u, u, u, u, u, u, x6] 23) H
noncomputable def ac0 : KK := CQ (tF [1, 1, 0, 1]) acW bA qY
noncomputable def zv : OV := ac0 (ls [x0, x1, x2, u, u, u, x6, x7] 22) H
noncomputable def PL : KX := BX 0 acW bA
noncomputable def Jw : KX := qz ml PL
noncomputable def PJ : KK := xy (tF [1, 1, 0, 1, 4, 5]) Jw qY
noncomputable def acX : KK := en jO PJ
noncomputable def ng : OV := PJ (ls [x0, x1, x2, u, u, u, x6, x7] 22) H
noncomputable def ac2 : KK := CQ (tF [1, 1, 0, 1, 4, 5, 1]) acX Jw qY
noncomputable def zw : OV := ac2 (ls [x0, x1, x2, u, u, u, x6, x7] 22) H
noncomputable def PK : KK := CQ (tF [1, 1, 0, 1, 4, 5, 1, 1]) acX Jw qY
noncomputable def aoO : KK := en jO PK
noncomputable def zx : OV := PK (ls [x0, x1, x2, u, u, u, x6, x7] 22) H
noncomputable def aoP : KX := BX 1 aoO Jw
noncomputable def tI : OV := PL 0 (ls [u, u, u, u, u, u, x6] 23) H
theorem m9 : ar ml qY := rf
theorem acZ : ar 1073741752 acY := rc m9 aB m9
theorem Dv : ar ml PI := rc m9 aB m9
theorem ac1 : ar jO ac0 := rc (cd Dv) aB m9
theorem qZ : ∀ i, ar ml (PL i) := rb (cd Dv) aB
theorem vR : ar jO PJ := rl (cx qZ) m9
theorem ac3 : ar jO ac2 := rc (cd vR) (cx qZ) m9
theorem Mo : ar jO PK := rc (cd vR) (cx qZ) m9
theorem ac4 : ∀ i, ar jO (aoP i) := rb (cd Mo) (cx qZ)
theorem DQ : zu x6 H =
 some ((vb true), H) :=
 (by kernel_rfl)
theorem DT : zx x0 x1 x2 x6 x7 H =
 (ai .other .add x7 (vi 1)).bind fun a =>
 ng x0 x1 x2 x6 a H :=
 (by kernel_rfl)
theorem DS : zw x0 x1 x2 x6 x7 H =
 ldN 7 [.i 7 x7] x0 H fun b =>
 ldN 7 [.i 7 x7] x1 H fun d =>
 (cf x2 [b, d]).bind fun c => (FF c.1 c.2 H).bind fun a =>
 (oc .not a.1).bind fun e =>
 av e
 (some ((vb false), a.2))
 (zx x0 x1 x2 x6 x7 a.2) :=
 (pt rfl 0 Mo (bt rfl (tF [1, 1, 0, 1, 4, 5, 1, 0, 4]) 1 ac4 (by kernel_rfl)))
theorem ye : tI x6 H = zu x6 H :=
 (by kernel_rfl)
theorem rg : ng x0 x1 x2 x6 x7 H =
 jd x0 fun a =>
 (ai .other .lss x7 a).bind fun b =>
 av b
 (zw x0 x1 x2 x6 x7 H)
 (tI x6 H) :=
 yl rfl vR (pt rfl 0 ac3 (by kernel_rfl))
theorem DR : zv x0 x1 x2 x6 x7 H =
 ng x0 x1 x2 x6 x7 H :=
 (bt rfl (tF [1, 1, 0, 1, 4]) 0 qZ (li rfl (tF [1, 1, 0, 1, 4, 5]) vR (by kernel_rfl)))
theorem DP : zt x0 x1 x2 x6 H =
 zv x0 x1 x2 x6 (vi 0) H :=
 (pt rfl 0 Dv (pt rfl 0 ac1 (by kernel_rfl)))
noncomputable def aeV : OV := bf PP GG FF (tF []) (ls [x0, x1, x2] 27) H qY bA qY
theorem MA {r : Value × AH} (h : (
 jd x0 fun a =>
 jd x1 fun b =>
 (ai .other .neq a b).bind fun c =>
 av c
 (some ((vb false), H))
 (zt x0 x1 x2 (vb false) H)) = some r) : FF pE [x0, x1, x2] H = some r :=
 fo (t := aeV x0 x1 x2 H) Tryz.func37 (by kernel_rfl) (Eq.trans (pt rfl 1 acZ (by kernel_rfl)) h)
theorem FR {r : Value × AH} (h : (
 aV (Value.cells x0).toList H fun b j =>
 aV (Value.cells x1).toList j fun c a =>
 ld [.f 0] b a fun k =>
 ld [.f 0] c a fun l =>
 (ai .other .eql k l).bind fun d =>
 gk d true  [.f 1] b a fun m =>
 gk d true  [.f 1] c a fun n =>
 (gB d true (ai .other .eql m n)).bind fun o =>
 (bd d o (vb false)).bind fun e =>
 gk e true  [.f 2] b a fun p =>
 gk e true  [.f 2] c a fun q =>
 (gB e true (ai .other .eql p q)).bind fun s =>
 (bd e s (vb false)).bind fun g =>
 oF g true  4 [.f 3] b a fun t =>
 oF g true  4 [.f 3] c a fun w =>
 (gE g true a (FF pF [t, w] a)).bind fun i =>
 (bd g i.1 (vb false)).bind fun y =>
 some (y, i.2)) = some r) : FF eM [x0, x1] H = some r :=
 fo Tryz.func38 (by kernel_rfl) h
theorem apE {r : Value × AH} (h : (
 (ai .slice .eql x0 (.slice none 0 0)).bind fun b =>
 av b
 (some ((.slice none 0 0), H))
 (FD 0 5 [(vi 0), (vi 0), (vi 0), (vi 0), (vi 0)] [] H fun c d =>
 (fN 5 40 c x0 d).bind fun a =>
 some (a.1, a.2))) = some r) : FF afK [x0] H = some r :=
 fo Tryz.func40 (by kernel_rfl) h
theorem wa {r : Value × AH} (h : (
 aV (Value.cells x0).toList H fun a b =>
 ld [.f 0] a b fun d =>
 (FF iq [d, x1, x2] b).bind fun c =>
 ld [.f 1] a c.2 fun e =>
 (FF jv [e, x1, x2] c.2).bind fun g =>
 some (Value.tuple #[], g.2)) = some r) : FF j5 [x0, x1, x2] H = some r :=
 fo Tryz.func41 (by kernel_rfl) h
theorem rR {r : Value × AH} (h : (
 aV (Value.cells x2).toList H fun b a =>
 (aA 4 b a).bind fun c =>
 ic [(0, 1), (1, 1), (2, 4), (6, 1), (7, 1), (8, 1), (9, 1), (10, 1), (11, 1), (12, 1), (13, 1), (14, 1), (15, 1), (16, 1), (17, 4), (21, 1), (22, 1), (23, 1), (24, 1), (25, 1), (26, 3), (29, 1), (30, 4)] [(.pointer none), (vi 0), (vi 0), (vi 0), (vi 0), (vi 0), (vi 0), (vi 0), (vi 0), (vb false), (vi 0), (vw 0), (vw 0), (vw 0), (vw 0), (vw 0), (vi 0), (vi 0), (.slice none 0 0), (vi 0), (vw 0), (vi 0), (vi 0), (.slice none 0 0), (vw 0), (vw 0), (vi 0), (vi 0), (vi 0), (vb false), (vi 0), (.slice none 0 0), (vi 0), (vw 0)] [(0, x0), (1, x1), (2, c), (5, (vi (-1)))] fun d =>
 aV (Value.cells d).toList a fun e f =>
 some (e, f)) = some r) : FF kw [x0, x1, x2] H = some r :=
 fo Tryz.func42 (by kernel_rfl) h
theorem OR {r : Value × AH} (h : (
 aV (Value.cells x2).toList H fun b a =>
 (aA 4 b a).bind fun e =>
 ld [.n, .f 2] x0 a fun g =>
 ld [.f 1] b a fun i =>
 (FF ft [g, i] a).bind fun c =>
 b7 (aA 4 b c.2) (aA 4 b a) <|
 ic [(0, 1), (1, 1), (2, 4), (6, 1), (7, 1), (8, 1), (9, 1), (10, 1), (11, 1), (12, 1), (13, 1), (14, 1), (15, 1)] [(.pointer none), (vi 0), (vi 0), (vi 0), (vi 0), (vi 0), (vi 0), Value.nilFunc, (vi 0), (vi 0), (vb false), (.pointer none), (vw 0), (vw 0), (vi 0), (vw 0)] [(0, x0), (1, x1), (2, e), (3, c.1)] fun j =>
 aV (Value.cells j).toList c.2 fun d k =>
 st 1 [.n, .f 7] d (.func (.func mA) #[d] #[]) k fun l =>
 some (d, l)) = some r) : FF yq [x0, x1, x2] H = some r :=
 fo Tryz.func43 (by kernel_rfl) h
noncomputable def adA (p : List Nat) : Code := Code.sub (bM Tryz.f44) p
noncomputable def Dy : KK := dP PP (Tryz.f44).results.toList
noncomputable def adB : KK := CQ (adA [1, 1, 1]) Dy bA Dy
noncomputable def EI : OV := adB (ls [u, u, u, u, u, x5, x6, x7] 26) H
noncomputable def adD : KK := CQ (adA [1, 1, 1, 1]) Dy bA Dy
noncomputable def uR : OV := adD (ls [u, u, u, u, u, u, x6, x7] 26) H
theorem Bv : ar 17179869119 Dy := rf
theorem adC : ar 17179868959 adB := rc Bv aB Bv
theorem adE : ar 17179868991 adD := rc Bv aB Bv
theorem tR : uR x6 x7 H =
 some (x7, H) :=
 (by kernel_rfl)
theorem F0 : EI x5 x6 x7 H =
 ld [.f 0] x5 H fun a =>
 (ai .other .eql a (vi 1)).bind fun b =>
 av b
 (st 1 [.n, .f 7] x7 (.func (.func fF) #[x7] #[]) H fun c =>
 uR x6 x7 c)
 (uR x6 x7 H) :=
 (pt rfl 0 adE (by kernel_rfl))
noncomputable def alQ : OV := bf PP GG FF (adA []) (ls [x0, x1, x2] 31) H Dy bA Dy
theorem QM {r : Value × AH} (h : (
 aV (Value.cells x2).toList H fun a b =>
 (aA 4 a b).bind fun e =>
 ld [.n, .f 2] x0 b fun g =>
 ld [.f 1] a b fun i =>
 (FF ft [g, i] b).bind fun c =>
 b7 (aA 4 a c.2) (aA 4 a b) <|
 ic [(0, 1), (1, 1), (2, 4), (6, 1), (7, 1), (8, 1), (9, 1), (10, 1), (11, 1), (12, 1), (13, 1), (14, 1), (15, 1), (16, 1)] [(.pointer none), (vi 0), (vi 0), (vi 0), (vi 0), (vi 0), (vi 0), Value.nilFunc, (vi 0), (vi 0), (vi 0), (vi 0), (.pointer none), (vw 0), (vw 0), (vi 0), (vi 0)] [(0, x0), (1, x1), (2, e), (3, c.1), (6, (vi (-1)))] fun j =>
 aV (Value.cells j).toList c.2 fun d k =>
 st 1 [.n, .f 7] d (.func (.func eF) #[d] #[]) k fun l =>
 EI a (.pointer none) d l) = some r) : FF yu [x0, x1, x2] H = some r :=
 fo (t := alQ x0 x1 x2 H) Tryz.func44 (by kernel_rfl) (Eq.trans (pt rfl 2 adC (by kernel_rfl)) h)
theorem OB {r : Value × AH} (h : (
 aV [(vi 0), (.slice none 0 0), (vi 0), (vw 0)] H fun b d =>
 ld [.n, .f 7] x0 d fun g =>
 (cf g [x1]).bind fun c => (FF c.1 c.2 d).bind fun a =>
 (ag a.1 0).bind fun i =>
 (ag a.1 1).bind fun j =>
 (cG 4 b i a.2).bind fun e =>
 (aA 4 b e).bind fun k => some (Value.tuple #[k, j], e)) = some r) : FF yp [x0, x1] H = some r :=
 fo Tryz.func45 (by kernel_rfl) h
noncomputable def cQ (p : List Nat) : Code := Code.sub (bM Tryz.f46) p
noncomputable def gJ : KK := dP PP (Tryz.f46).results.toList
noncomputable def adF : KK := CQ (cQ [1, 1, 1]) gJ bA gJ
noncomputable def QF : OV := adF (ls [x0, x1, u, u, x4, x5, x6, x7] 297) H
noncomputable def adH : KK := CQ (cQ [1, 1, 1, 1]) gJ bA gJ
noncomputable def QG : OV := adH (ls [x0, x1, u, u, x4, x5, x6, x7] 297) H
noncomputable def PM : KK := CQ (cQ [1, 1, 1, 1, 1]) gJ bA gJ
noncomputable def im : KK := en VS PM
noncomputable def fJ : OV := PM (ls [u, u, u, u, x4] 300) H
noncomputable def adJ : KK := CQ (cQ [1, 1, 1, 1, 0, 1]) im bA gJ
noncomputable def pO : OV := adJ (ls [x0, x1, u, u, x4, x5, x6, x7, u, u, u, u, u, u, u, u, u, u, u, u, u, u, u, u, u, u, u, u, u, u, u, u, u, u, u, u, u, u, u, u, u, u, u, u, u, u, u, u, u, u, u, u, u, u, u, u, u, u, u, u, u, u, u, u, u, u, u, u, u, u, u, u, u, u, u, u, u, u, u, u, u, u, u, u, u, u, u, u, u, u, u, u, u, x93] 211) H
noncomputable def adN : KX := BX 0 im bA
noncomputable def ji : KX := qz VS adN
noncomputable def adL : KK := CQ (cQ [1, 1, 1, 1, 0, 1, 4, 1]) im ji gJ
noncomputable def QI : OV := adL (ls [x0, x1, u, u, x4, x5, x6, x7, u, u, u, u, u, u, u, u, u, u, u, u, u, u, u, u, u, u, u, u, u, u, u, u, u, u, u, u, u, u, u, u, u, u, u, u, u, u, u, u, u, u, u, u, u, u, u, u, u, u, u, u, u, u, u, u, u, u, u, u, u, u, u, u, u, u, u, u, u, u, u, u, u, u, u, u, u, u, u, u, u, u, u, u, u, x93, u, u, u, x97] 207) H
noncomputable def T5 : KK := CQ (cQ [1, 1, 1, 1, 0, 1, 4, 1, 3, 1]) im ji gJ
noncomputable def UQ : OV := T5 (ls [x0, x1, u, u, x4, x5, x6, x7, u, u, u, u, u, u, u, u, u, u, u, u, u, u, u, u, u, u, u, u, u, u, u, u, u, u, u, u, u, u, u, u, u, u, u, u, u, u, u, u, u, u, u, u, u, u, u, u, u, u, u, u, u, u, u, u, u, u, u, u, u, u, u, u, u, u, u, u, u, u, u, u, u, u, u, u, u, u, u, u, u, u, u, u, u, x93, u, u, u, u, u, u, u, u, u, u, u, u, u, u, u, u, u, u, x112] 192) H
noncomputable def T6 : KK := CQ (cQ [1, 1, 1, 1, 0, 1, 4, 1, 3, 1, 3, 1]) im ji gJ
noncomputable def UR : OV := T6 (ls [x0, x1, u, u, x4, x5, x6, x7, u, u, u, u, u, u, u, u, u, u, u, u, u, u, u, u, u, u, u, u, u, u, u, u, u, u, u, u, u, u, u, u, u, u, u, u, u, u, u, u, u, u, u, u, u, u, u, u, u, u, u, u, u, u, u, u, u, u, u, u, u, u, u, u, u, u, u, u, u, u, u, u, u, u, u, u, u, u, u, u, u, u, u, u, u, x93, u, u, u, u, u, u, u, u, u, u, u, u, u, u, u, u, u, u, u, u, u, u, u, u, u, u, u, u, u, u, u, u, u, u, u, u, u, u, u, x133] 171) H
noncomputable def T7 : KK := CQ (cQ [1, 1, 1, 1, 0, 1, 4, 1, 3, 1, 3, 1, 3, 1]) im ji gJ
noncomputable def US : OV := T7 (ls [x0, x1, u, u, x4, x5, x6, x7, u, u, u, u, u, u, u, u, u, u, u, u, u, u, u, u, u, u, u, u, u, u, u, u, u, u, u, u, u, u, u, u, u, u, u, u, u, u, u, u, u, u, u, u, u, u, u, u, u, u, u, u, u, u, u, u, u, u, u, u, u, u, u, u, u, u, u, u, u, u, u, u, u, u, u, u, u, u, u, u, u, u, u, u, u, x93, u, u, u, u, u, u, u, u, u, u, u, u, u, u, u, u, u, u, u, u, u, u, u, u, u, u, u, u, u, u, u, u, u, u, u, u, u, u, u, u, u, u, u, u, u, u, u, u, u, u, u, u, u, u, u, u, u, x151] 153) H
noncomputable def T8 : KK := CQ (cQ [1, 1, 1, 1, 0, 1, 4, 1, 3, 1, 3, 1, 3, 1, 3, 1]) im ji gJ
noncomputable def Kc : OV := T8 (ls [x0, x1, u, u, x4, x5, x6, x7, u, u, u, u, u, u, u, u, u, u, u, u, u, u, u, u, u, u, u, u, u, u, u, u, u, u, u, u, u, u, u, u, u, u, u, u, u, u, u, u, u, u, u, u, u, u, u, u, u, u, u, u, u, u, u, u, u, u, u, u, u, u, u, u, u, u, u, u, u, u, u, u, u, u, u, u, u, u, u, u, u, u, u, u, u, x93, u, u, u, u, u, u, u, u, u, u, u, u, u, u, u, u, u, u, u, u, u, u, u, u, u, u, u, u, u, u, u, u, u, u, u, u, u, u, u, u, u, u, u, u, u, u, u, u, u, u, u, u, u, u, u, u, u, u, u, u, u, u, u, u, u, u, u, u, u, u, u, u, u, u, u, u, u, x171] 133) H
noncomputable def T9 : KK := CQ (cQ [1, 1, 1, 1, 0, 1, 4, 1, 3, 1, 3, 1, 3, 1, 3, 1, 3, 1]) im ji gJ
noncomputable def UT : OV := T9 (ls [x0, x1, u, u, x4, x5, x6, x7, u, u, u, u, u, u, u, u, u, u, u, u, u, u, u, u, u, u, u, u, u, u, u, u, u, u, u, u, u, u, u, u, u, u, u, u, u, u, u, u, u, u, u, u, u, u, u, u, u, u, u, u, u, u, u, u, u, u, u, u, u, u, u, u, u, u, u, u, u, u, u, u, u, u, u, u, u, u, u, u, u, u, u, u, u, x93, u, u, u, u, u, u, u, u, u, u, u, u, u, u, u, u, u, u, u, u, u, u, u, u, u, u, u, u, u, u, u, u, u, u, u, u, u, u, u, u, u, u, u, u, u, u, u, u, u, u, u, u, u, u, u, u, u, u, u, u, u, u, u, u, u, u, u, u, u, u, u, u, u, u, u, u, u, u, u, u, u, u, u, u, u, u, u, u, u, u, u, u, x186] 118) H
noncomputable def Ua : KK := CQ (cQ [1, 1, 1, 1, 0, 1, 4, 1, 3, 1, 3, 1, 3, 1, 3, 1, 3, 1, 3, 1]) im ji gJ
noncomputable def Kd : OV := Ua (ls [x0, x1, u, u, x4, x5, x6, x7, u, u, u, u, u, u, u, u, u, u, u, u, u, u, u, u, u, u, u, u, u, u, u, u, u, u, u, u, u, u, u, u, u, u, u, u, u, u, u, u, u, u, u, u, u, u, u, u, u, u, u, u, u, u, u, u, u, u, u, u, u, u, u, u, u, u, u, u, u, u, u, u, u, u, u, u, u, u, u, u, u, u, u, u, u, x93, u, u, u, u, u, u, u, u, u, u, u, u, u, u, u, u, u, u, u, u, u, u, u, u, u, u, u, u, u, u, u, u, u, u, u, u, u, u, u, u, u, u, u, u, u, u, u, u, u, u, u, u, u, u, u, u, u, u, u, u, u, u, u, u, u, u, u, u, u, u, u, u, u, u, u, u, u, u, u, u, u, u, u, u, u, u, u, u, u, u, u, u, u, u, u, u, u, u, u, u, u, u, u, x197] 107) H
noncomputable def Ub : KK := CQ (cQ [1, 1, 1, 1, 0, 1, 4, 1, 3, 1, 3, 1, 3, 1, 3, 1, 3, 1, 3, 1, 2, 1, 1]) im ji gJ
noncomputable def UU : OV := Ub (ls [x0, u, u, u, x4, u, u, u, u, u, u, u, u, x13] 291) H
noncomputable def ak4 : KX := BX 1 im ji
noncomputable def Uc : KK := CQ (cQ [1, 1, 1, 1, 0, 1, 4, 1, 3, 1, 3, 1, 3, 1, 3, 1, 3, 1, 3, 1, 3, 1]) im ji gJ
noncomputable def Ke : OV := Uc (ls [x0, x1, u, u, x4, x5, x6, x7, u, u, u, u, u, u, u, u, u, u, u, u, u, u, u, u, u, u, u, u, u, u, u, u, u, u, u, u, u, u, u, u, u, u, u, u, u, u, u, u, u, u, u, u, u, u, u, u, u, u, u, u, u, u, u, u, u, u, u, u, u, u, u, u, u, u, u, u, u, u, u, u, u, u, u, u, u, u, u, u, u, u, u, u, u, x93, u, u, u, u, u, u, u, u, u, u, u, u, u, u, u, u, u, u, u, u, u, u, u, u, u, u, u, u, u, u, u, u, u, u, u, u, u, u, u, u, u, u, u, u, u, u, u, u, u, u, u, u, u, u, u, u, u, u, u, u, u, u, u, u, u, u, u, u, u, u, u, u, u, u, u, u, u, u, u, u, u, u, u, u, u, u, u, u, u, u, u, u, u, u, u, u, u, u, u, u, u, u, u, u, u, u, u, u, u, u, u, u, u, u, u, u, u, u, u, u, u, u, u, u, u, u, u, u, u, u, u, u, u, u, u, u, u, u, u, u, u, u, u, u, u, u, u, u, x242] 62) H
noncomputable def Ud : KK := CQ (cQ [1, 1, 1, 1, 0, 1, 4, 1, 3, 1, 3, 1, 3, 1, 3, 1, 3, 1, 3, 1, 3, 1, 3, 1]) im ji gJ
noncomputable def wU : OV := Ud (ls [x0, x1, u, u, x4, x5, x6, x7, u, u, u, u, u, u, u, u, u, u, u, u, u, u, u, u, u, u, u, u, u, u, u, u, u, u, u, u, u, u, u, u, u, u, u, u, u, u, u, u, u, u, u, u, u, u, u, u, u, u, u, u, u, u, u, u, u, u, u, u, u, u, u, u, u, u, u, u, u, u, u, u, u, u, u, u, u, u, u, u, u, u, u, u, u, x93, u, u, u, u, u, u, u, u, u, u, u, u, u, u, u, u, u, u, u, u, u, u, u, u, u, u, u, u, u, u, u, u, u, u, u, u, u, u, u, u, u, u, u, u, u, u, u, u, u, u, u, u, u, u, u, u, u, u, u, u, u, u, u, u, u, u, u, u, u, u, u, u, u, u, u, u, u, u, u, u, u, u, u, u, u, u, u, u, u, u, u, u, u, u, u, u, u, u, u, u, u, u, u, u, u, u, u, u, u, u, u, u, u, u, u, u, u, u, u, u, u, u, u, u, u, u, u, u, u, u, u, u, u, u, u, u, u, u, u, u, u, u, u, u, u, u, u, u, u, u, u, u, u, u, x248] 56) H
noncomputable def Ue : KK := CQ (cQ [1, 1, 1, 1, 0, 1, 4, 1, 3, 1, 3, 1, 3, 1, 3, 1, 3, 1, 3, 1, 3, 1, 3, 1, 3, 1]) im ji gJ
noncomputable def Kf : OV := Ue (ls [x0, x1, u, u, x4, x5, x6, u, u, u, u, u, u, u, u, u, u, u, u, u, u, u, u, u, u, u, u, u, u, u, u, u, u, u, u, u, u, u, u, u, u, u, u, u, u, u, u, u, u, u, u, u, u, u, u, u, u, u, u, u, u, u, u, u, u, u, u, u, u, u, u, u, u, u, u, u, u, u, u, u, u, u, u, u, u, u, u, u, u, u, u, u, u, x93, u, u, u, u, u, u, u, u, u, u, u, u, u, u, u, u, u, u, u, u, u, u, u, u, u, u, u, u, u, u, u, u, u, u, u, u, u, u, u, u, u, u, u, u, u, u, u, u, u, u, u, u, u, u, u, u, u, u, u, u, u, u, u, u, u, u, u, u, u, u, u, u, u, u, u, u, u, u, u, u, u, u, u, u, u, u, u, u, u, u, u, u, u, u, u, u, u, u, u, u, u, u, u, u, u, u, u, u, u, u, u, u, u, u, u, u, u, u, u, u, u, u, u, u, u, u, u, u, u, u, u, u, u, u, u, u, u, u, u, u, u, u, u, u, u, u, u, u, u, u, u, u, u, u, u, u, u, u, u, u, u, u, u, u, u, u, u, u, u, u, u, u, u, u, u, u, u, u, x272] 32) H
noncomputable def Uf : KK := CQ (cQ [1, 1, 1, 1, 0, 1, 4, 1, 3, 1, 3, 1, 3, 1, 3, 1, 3, 1, 3, 1, 3, 1, 3, 1, 3, 1, 3, 1]) im ji gJ
noncomputable def UV : OV := Uf (ls [x0, x1, u, u, x4, x5, x6, u, u, u, u, u, u, u, u, u, u, u, u, u, u, u, u, u, u, u, u, u, u, u, u, u, u, u, u, u, u, u, u, u, u, u, u, u, u, u, u, u, u, u, u, u, u, u, u, u, u, u, u, u, u, u, u, u, u, u, u, u, u, u, u, u, u, u, u, u, u, u, u, u, u, u, u, u, u, u, u, u, u, u, u, u, u, x93, u, u, u, u, u, u, u, u, u, u, u, u, u, u, u, u, u, u, u, u, u, u, u, u, u, u, u, u, u, u, u, u, u, u, u, u, u, u, u, u, u, u, u, u, u, u, u, u, u, u, u, u, u, u, u, u, u, u, u, u, u, u, u, u, u, u, u, u, u, u, u, u, u, u, u, u, u, u, u, u, u, u, u, u, u, u, u, u, u, u, u, u, u, u, u, u, u, u, u, u, u, u, u, u, u, u, u, u, u, u, u, u, u, u, u, u, u, u, u, u, u, u, u, u, u, u, u, u, u, u, u, u, u, u, u, u, u, u, u, u, u, u, u, u, u, u, u, u, u, u, u, u, u, u, u, u, u, u, u, u, u, u, u, u, u, u, u, u, u, u, u, u, u, u, u, u, u, u, u, u, u, u, u, u, u, u, u, u, u, x283] 21) H
noncomputable def Ug : KK := CQ (cQ [1, 1, 1, 1, 0, 1, 4, 1, 3, 1, 3, 1, 3, 1, 3, 1, 3, 1, 3, 1, 3, 1, 3, 1, 3, 1, 3, 1, 3, 1]) im ji gJ
noncomputable def lO : OV := Ug (ls [x0, x1, u, u, x4, u, x6, u, u, u, u, u, u, u, u, u, u, u, u, u, u, u, u, u, u, u, u, u, u, u, u, u, u, u, u, u, u, u, u, u, u, u, u, u, u, u, u, u, u, u, u, u, u, u, u, u, u, u, u, u, u, u, u, u, u, u, u, u, u, u, u, u, u, u, u, u, u, u, u, u, u, u, u, u, u, u, u, u, u, u, u, u, u, u, u, u, u, u, u, u, u, u, u, u, u, u, u, u, u, u, u, u, u, u, u, u, u, u, u, u, u, u, u, u, u, u, u, u, u, u, u, u, u, u, u, u, u, u, u, u, u, u, u, u, u, u, u, u, u, u, u, u, u, u, u, u, u, u, u, u, u, u, u, u, u, u, u, u, u, u, u, u, u, u, u, u, u, u, u, u, u, u, u, u, u, u, u, u, u, u, u, u, u, u, u, u, u, u, u, u, u, u, u, u, u, u, u, u, u, u, u, u, u, u, u, u, u, u, u, u, u, u, u, u, u, u, u, u, u, u, u, u, u, u, u, u, u, u, u, u, u, u, u, u, u, u, u, u, u, u, u, u, u, u, u, u, u, u, u, u, u, u, u, u, u, u, u, u, u, u, u, u, u, u, u, u, u, u, u, u, u, u, u, u, u, u, u, u, u, u, u, u, u, u, u, u, u, x297] 7) H
theorem dD : ar VS gJ := rf
theorem adG : ar amU adF := rc dD aB dD
theorem adI : ar amU adH := rc dD aB dD
theorem dx : ar VS PM := rc dD aB dD
theorem adK : ar 65185151242703554760590262029100101153646988597309960020356494369436681278143732398675721996 adJ := rc (cd dx) aB dD
theorem d7 : ∀ i, ar VS (adN i) := rb (cd dx) aB
theorem adM : ar 65185151242703554760590262029100101153646988597309960020356494210980356249615057211587821324 adL := rc (cd dx) (cx d7) dD
theorem XB : ar 65185151242703554760590262029100101153646988597309960020351302072578146450515201902346501900 T5 := rc (cd dx) (cx d7) dD
theorem XC : ar 65185151242703554760590262029100101153646988597309949131320752899405850450156294582092955404 T6 := rc (cd dx) (cx d7) dD
theorem XD : ar 65185151242703554760590262029100101153646988594455464634944574607320109339244742125910228748 T7 := rc (cd dx) (cx d7) dD
theorem XE : ar 65185151242703554760590262029100101153643995441956706331180013222899278330519477048827707148 T8 := rc (cd dx) (cx d7) dD
theorem XF : ar 65185151242703554760590262029100101055567273981893073085422284631816893526544428578925182732 T9 := rc (cd dx) (cx d7) dD
theorem XG : ar 65185151242703554760590262029099900286391456223525517275094951724111366002769509549571309324 Ua := rc (cd dx) (cx d7) dD
theorem XH : ar 65185151242703554760590262029100101153646988597309960020356494379340201592426774597868707822 Ub := rc (cd dx) (cx d7) dD
theorem XN : ∀ i, ar VS (ak4 i) := rb (cd dx) (cx d7)
theorem XI : ar 65185151242703554753522873769986563835313798594338285957046558781934205445657307593505242892 Uc := rc (cd dx) (cx d7) dD
theorem XJ : ar 65185151242703554308277413445833712780322828407122819968520616769278227999012544867765059340 Ud := rc (cd dx) (cx d7) dD
theorem XK : ar 65185151235115004400333507845820953080117617868238058305309074364546789052601137534592876428 Ue := rc (cd dx) (cx d7) dD
theorem XL : ar 65185135701352416954757694673404846565495735458055247603240324354937403366909450757007736716 Uf := rc (cd dx) (cx d7) dD
theorem XM : ar 64930521745661743999806706318048928883515555048101717989026976823170903929956357509595791276 Ug := rc (cd dx) (cx d7) dD
theorem cC : fJ x4 H =
 some ((vb false), H) :=
 (by kernel_rfl)
theorem QH : UU x0 x4 x13 H =
 (FF b8 [x0] H).bind fun a =>
 ad [.n, .f 11] x0 fun c =>
 (au c a.2).bind fun e =>
 b7 (au c H) (au c a.2) <|
 ad [.n, .f 12] x0 fun d =>
 (au d a.2).bind fun g =>
 b7 (au d H) (au d a.2) <|
 (FF iI [a.1, e, g] a.2).bind fun b =>
 av b.1
 (st 1 [.n, .f 6] x0 (vi 15) b.2 fun i =>
 fJ x4 i)
 ((ai .other .eql x13 (vi 1)).bind fun j =>
 av j
 (st 1 [.n, .f 6] x0 (vi 9) b.2 fun k =>
 fJ x4 k)
 (st 1 [.n, .f 6] x0 (vi 12) b.2 fun l =>
 fJ x4 l)) :=
 (bt rfl (cQ [1, 1, 1, 1, 0, 1, 4, 1, 3, 1, 3, 1, 3, 1, 3, 1, 3, 1, 3, 1, 2, 1, 1, 4]) 1 XN (by kernel_rfl))
theorem mP : lO x0 x1 x4 x6 x297 H =
 av x297
 ((FF anJ [x0, x1] H).bind fun a =>
 some (a.1, a.2))
 ((FF afI [x0, x6] H).bind fun b =>
 some (b.1, b.2)) :=
 (by kernel_rfl)
theorem EE : UV x0 x1 x4 x5 x6 x93 x283 H =
 av x283
 (ld [.n, .f 6] x5 H fun d =>
 ld [.n, .f 1] x0 H fun e =>
 (FF ju [d, e] H).bind fun g =>
 st 1 [.n, .f 6] x0 (vi 13) g.2 fun i =>
 fJ x4 i)
 ((ai .other .eql x93 (vi 15)).bind fun a =>
 av a
 (lO x0 x1 x4 x6 a H)
 ((ai .other .eql x93 (vi 16)).bind fun b =>
 av b
 (lO x0 x1 x4 x6 b H)
 ((ai .other .eql x93 (vi 17)).bind fun c =>
 av c
 (lO x0 x1 x4 x6 c H)
 ((ai .other .eql x93 (vi 18)).bind fun j =>
 lO x0 x1 x4 x6 j H)))) :=
 (ct rfl (cQ [1, 1, 1, 1, 0, 1, 4, 1, 3, 1, 3, 1, 3, 1, 3, 1, 3, 1, 3, 1, 3, 1, 3, 1, 3, 1, 3, 1, 2]) (cQ [1, 1, 1, 1, 0, 1, 4, 1, 3, 1, 3, 1, 3, 1, 3, 1, 3, 1, 3, 1, 3, 1, 3, 1, 3, 1, 3, 1, 3]) (.tmp 283) (by kernel_rfl) (pt rfl 0 XM (by kernel_rfl)))
theorem uQ : Kf x0 x1 x4 x5 x6 x93 x272 H =
 av x272
 ((FF b8 [x0] H).bind fun a =>
 ad [.n, .f 1] x0 fun b =>
 (au b a.2).bind fun d =>
 b7 (au b H) (au b a.2) <|
 (FF fE [x0] a.2).bind fun c =>
 b7 (au b c.2) (au b a.2) <|
 (FF iK [a.1, d, c.1] c.2).bind fun e =>
 some ((vb true), e.2))
 ((ai .other .eql x93 (vi 12)).bind fun g =>
 UV x0 x1 x4 x5 x6 x93 g H) :=
 (ct rfl (cQ [1, 1, 1, 1, 0, 1, 4, 1, 3, 1, 3, 1, 3, 1, 3, 1, 3, 1, 3, 1, 3, 1, 3, 1, 3, 1, 2]) (cQ [1, 1, 1, 1, 0, 1, 4, 1, 3, 1, 3, 1, 3, 1, 3, 1, 3, 1, 3, 1, 3, 1, 3, 1, 3, 1, 3]) (.tmp 272) (by kernel_rfl) (pt rfl 0 XL (by kernel_rfl)))
theorem uP : wU x0 x1 x4 x5 x6 x7 x93 x248 H =
 av x248
 ((FF b8 [x0] H).bind fun a =>
 ad [.n, .f 1] x0 fun c =>
 (au c a.2).bind fun e =>
 b7 (au c H) (au c a.2) <|
 (FF fE [x0] a.2).bind fun b =>
 b7 (au c b.2) (au c a.2) <|
 (aA 3 x7 b.2).bind fun g =>
 b7 (aA 3 x7 H) (aA 3 x7 b.2) <|
 b7 (aA 3 x7 a.2) (aA 3 x7 b.2) <|
 (FF mI [a.1, e, b.1, g] b.2).bind fun i =>
 st 1 [.n, .f 6] x0 (vi 11) i.2 fun d =>
 ld [.n, .f 13] x0 d fun j =>
 (ai .other .eql j (vw 1)).bind fun k =>
 av k
 (st 1 [.n, .f 6] x0 (vi 21) d fun l =>
 fJ x4 l)
 (fJ x4 d))
 ((ai .other .eql x93 (vi 11)).bind fun m =>
 Kf x0 x1 x4 x5 x6 x93 m H) :=
 (ct rfl (cQ [1, 1, 1, 1, 0, 1, 4, 1, 3, 1, 3, 1, 3, 1, 3, 1, 3, 1, 3, 1, 3, 1, 3, 1, 2]) (cQ [1, 1, 1, 1, 0, 1, 4, 1, 3, 1, 3, 1, 3, 1, 3, 1, 3, 1, 3, 1, 3, 1, 3, 1, 3]) (.tmp 248) (by kernel_rfl) (pt rfl 0 XK (by kernel_rfl)))
theorem uO : Ke x0 x1 x4 x5 x6 x7 x93 x242 H =
 av x242
 ((FF j9 [x0, x1] H).bind fun b =>
 fJ x4 b.2)
 ((ai .other .eql x93 (vi 10)).bind fun a =>
 av a
 (wU x0 x1 x4 x5 x6 x7 x93 a H)
 ((ai .other .eql x93 (vi 14)).bind fun c =>
 wU x0 x1 x4 x5 x6 x7 x93 c H)) :=
 (ct rfl (cQ [1, 1, 1, 1, 0, 1, 4, 1, 3, 1, 3, 1, 3, 1, 3, 1, 3, 1, 3, 1, 3, 1, 2]) (cQ [1, 1, 1, 1, 0, 1, 4, 1, 3, 1, 3, 1, 3, 1, 3, 1, 3, 1, 3, 1, 3, 1, 3]) (.tmp 242) (by kernel_rfl) (pt rfl 0 XJ (by kernel_rfl)))
theorem pP : Kd x0 x1 x4 x5 x6 x7 x93 x197 H =
 av x197
 ((FF b8 [x0] H).bind fun a =>
 ad [.n, .f 1] x0 fun c =>
 (au c a.2).bind fun i =>
 b7 (au c H) (au c a.2) <|
 (FF iJ [a.1, i] a.2).bind fun d =>
 st 1 [.n, .f 12] x0 d.1 d.2 fun e =>
 ld [.n, .f 11] x0 e fun j =>
 (FF gL [j] e).bind fun b =>
 (ag b.1 0).bind fun m =>
 (ag b.1 1).bind fun k =>
 (ag b.1 2).bind fun o =>
 UU x0 x4 k b.2)
 ((ai .other .eql x93 (vi 9)).bind fun g =>
 av g
 (Ke x0 x1 x4 x5 x6 x7 x93 g H)
 ((ai .other .eql x93 (vi 13)).bind fun l =>
 Ke x0 x1 x4 x5 x6 x7 x93 l H)) :=
 (ct rfl (cQ [1, 1, 1, 1, 0, 1, 4, 1, 3, 1, 3, 1, 3, 1, 3, 1, 3, 1, 3, 1, 2]) (cQ [1, 1, 1, 1, 0, 1, 4, 1, 3, 1, 3, 1, 3, 1, 3, 1, 3, 1, 3, 1, 3]) (.tmp 197) (pt rfl 1 XH (by kernel_rfl)) (pt rfl 0 XI (by kernel_rfl)))
theorem ED : UT x0 x1 x4 x5 x6 x7 x93 x186 H =
 av x186
 (st 1 [.n, .f 6] x0 (vi 8) H fun b =>
 (FF eE [x0] b).bind fun a =>
 (ai .other .eql a.1 (vi 2)).bind fun c =>
 av c
 (st 1 [.n, .f 6] x0 (vi 3) a.2 fun d =>
 fJ x4 d)
 (fJ x4 a.2))
 ((ai .other .eql x93 (vi 8)).bind fun e =>
 Kd x0 x1 x4 x5 x6 x7 x93 e H) :=
 (ct rfl (cQ [1, 1, 1, 1, 0, 1, 4, 1, 3, 1, 3, 1, 3, 1, 3, 1, 3, 1, 2]) (cQ [1, 1, 1, 1, 0, 1, 4, 1, 3, 1, 3, 1, 3, 1, 3, 1, 3, 1, 3]) (.tmp 186) (by kernel_rfl) (pt rfl 0 XG (by kernel_rfl)))
theorem uN : Kc x0 x1 x4 x5 x6 x7 x93 x171 H =
 av x171
 (ld [.n, .f 1] x0 H fun a =>
 ld [.n, .f 10] x0 H fun b =>
 (FF lj [x5, a, b] H).bind fun c =>
 st 1 [.n, .f 6] x0 (vi 7) c.2 fun d =>
 fJ x4 d)
 ((ai .other .eql x93 (vi 7)).bind fun e =>
 UT x0 x1 x4 x5 x6 x7 x93 e H) :=
 (ct rfl (cQ [1, 1, 1, 1, 0, 1, 4, 1, 3, 1, 3, 1, 3, 1, 3, 1, 2]) (cQ [1, 1, 1, 1, 0, 1, 4, 1, 3, 1, 3, 1, 3, 1, 3, 1, 3]) (.tmp 171) (by kernel_rfl) (pt rfl 0 XF (by kernel_rfl)))
theorem EC : US x0 x1 x4 x5 x6 x7 x93 x151 H =
 av x151
 (ld [.n, .f 7] x5 H fun b =>
 ld [.n, .f 1] x0 H fun c =>
 (FF eb [b, c, x6] H).bind fun a =>
 ld [.n, .f 9] x0 a.2 fun d =>
 (oc .not d).bind fun e =>
 av e
 (some ((vb true), a.2))
 (st 1 [.n, .f 6] x0 (vi 6) a.2 fun g =>
 fJ x4 g))
 ((ai .other .eql x93 (vi 6)).bind fun i =>
 Kc x0 x1 x4 x5 x6 x7 x93 i H) :=
 (ct rfl (cQ [1, 1, 1, 1, 0, 1, 4, 1, 3, 1, 3, 1, 3, 1, 2]) (cQ [1, 1, 1, 1, 0, 1, 4, 1, 3, 1, 3, 1, 3, 1, 3]) (.tmp 151) (by kernel_rfl) (pt rfl 0 XE (by kernel_rfl)))
theorem uM : UR x0 x1 x4 x5 x6 x7 x93 x133 H =
 av x133
 ((FF Ej [x0] H).bind fun a =>
 (ag a.1 0).bind fun b =>
 (ag a.1 1).bind fun c =>
 av b
 (st 1 [.n, .f 6] x0 (vi 5) a.2 fun d =>
 fJ x4 d)
 (av c
 ((FF bJ [x0, x1, (vi 5)] a.2).bind fun e =>
 st 1 [.n, .f 6] x0 (vi 5) e.2 fun g =>
 fJ x4 g)
 (fJ x4 a.2)))
 ((ai .other .eql x93 (vi 5)).bind fun i =>
 US x0 x1 x4 x5 x6 x7 x93 i H) :=
 (ct rfl (cQ [1, 1, 1, 1, 0, 1, 4, 1, 3, 1, 3, 1, 2]) (cQ [1, 1, 1, 1, 0, 1, 4, 1, 3, 1, 3, 1, 3]) (.tmp 133) (by kernel_rfl) (pt rfl 0 XD (by kernel_rfl)))
theorem pN : UQ x0 x1 x4 x5 x6 x7 x93 x112 H =
 av x112
 (ld [.n, .f 7] x5 H fun b =>
 ld [.n, .f 1] x0 H fun c =>
 (FF gY [b, c, x6] H).bind fun a =>
 av a.1
 (st 1 [.n, .f 6] x0 (vi 4) a.2 fun d =>
 st 1 [.n, .f 7] x0 (vi 0) d fun e =>
 st 1 [.n, .f 9] x0 (vb false) e fun g =>
 fJ x4 g)
 (fJ x4 a.2))
 ((ai .other .eql x93 (vi 4)).bind fun i =>
 UR x0 x1 x4 x5 x6 x7 x93 i H) :=
 (ct rfl (cQ [1, 1, 1, 1, 0, 1, 4, 1, 3, 1, 2]) (cQ [1, 1, 1, 1, 0, 1, 4, 1, 3, 1, 3]) (.tmp 112) (by kernel_rfl) (pt rfl 0 XC (by kernel_rfl)))
theorem oW : QI x0 x1 x4 x5 x6 x7 x93 x97 H =
 av x97
 ((FF Ej [x0] H).bind fun a =>
 (ag a.1 0).bind fun b =>
 (ag a.1 1).bind fun c =>
 av b
 (st 1 [.n, .f 6] x0 (vi 6) a.2 fun d =>
 fJ x4 d)
 (av c
 (st 1 [.n, .f 6] x0 (vi 3) a.2 fun e =>
 fJ x4 e)
 (fJ x4 a.2)))
 ((ai .other .eql x93 (vi 3)).bind fun g =>
 UQ x0 x1 x4 x5 x6 x7 x93 g H) :=
 (ct rfl (cQ [1, 1, 1, 1, 0, 1, 4, 1, 2]) (cQ [1, 1, 1, 1, 0, 1, 4, 1, 3]) (.tmp 97) (by kernel_rfl) (pt rfl 0 XB (by kernel_rfl)))
theorem l7 : pO x0 x1 x4 x5 x6 x7 x93 H =
 (ai .other .eql x93 (vi 2)).bind fun a =>
 QI x0 x1 x4 x5 x6 x7 x93 a H :=
 (bt rfl (cQ [1, 1, 1, 1, 0, 1, 4]) 0 d7 (pt rfl 0 adM (by kernel_rfl)))
theorem Hg : QG x0 x1 x4 x5 x6 x7 H =
 ld [.n, .f 6] x0 H fun a =>
 pO x0 x1 x4 x5 x6 x7 a H :=
 (pt rfl 0 dx (pt rfl 0 adK (by kernel_rfl)))
theorem Hf : QF x0 x1 x4 x5 x6 x7 H =
 ld [.n, .f 6] x0 H fun c =>
 (ai .other .eql c (vi 0)).bind fun d =>
 av d
 (ld [.n, .f 2, .f 2] x0 H fun e =>
 (ai .other .lss e (vi 1)).bind fun a =>
 (gV a false x0).bind fun g =>
 gk a false  [.n, .f 2, .f 2] g H fun i =>
 (gB a false (ai .other .gtr i (vi 65536))).bind fun j =>
 (bd a (vb true) j).bind fun k =>
 av k
 ((FF bJ [x0, x1, (vi 3)] H).bind fun l =>
 some ((vb true), l.2))
 (ld [.n, .f 2, .f 1] x0 H fun m =>
 (ai .other .lss m (vi 0)).bind fun b =>
 (gV b false x0).bind fun o =>
 gk b false  [.n, .f 2, .f 1] o H fun p =>
 (gB b false (ai .other .gtr p (vi 1048576))).bind fun q =>
 (bd b (vb true) q).bind fun s =>
 av s
 ((FF bJ [x0, x1, (vi 5)] H).bind fun t =>
 some ((vb true), t.2))
 (st 1 [.n, .f 6] x0 (vi 2) H fun w =>
 QG x0 x1 x4 x5 x6 x7 w)))
 (QG x0 x1 x4 x5 x6 x7 H) :=
 (pt rfl 0 adI (by kernel_rfl))
noncomputable def rTE : OV := bf PP GG FF (cQ []) (ls [x0, x1] 303) H gJ bA gJ
theorem apA {r : Value × AH} (h : (
 ad [.n, .f 0] x0 fun b =>
 (au b H).bind fun d =>
 ld [.n, .f 0] x0 H fun e =>
 ld [.n, .f 7] e H fun g =>
 ld [.n, .f 2, .f 1] x0 H fun i =>
 (FF eN [g, i] H).bind fun a =>
 b7 (au b a.2) (au b H) <|
 ld [.n, .f 2, .f 1] x0 a.2 fun j =>
 ld [.n, .f 2, .f 2] x0 a.2 fun k =>
 ld [.n, .f 2, .f 3] x0 a.2 fun l =>
 ic [(0, 1), (1, 1), (2, 1)] [(vi 0), (vi 0), (vi 0)] [(0, j), (1, k), (2, l)] fun m =>
 aV [(vi 0), (vi 0), (vi 0)] a.2 fun c o =>
 (cG 3 c m o).bind fun p =>
 QF x0 x1 (vb false) d a.1 c p) = some r) : FF eO [x0, x1] H = some r :=
 fo (t := rTE x0 x1 H) Tryz.func46 (by kernel_rfl) (Eq.trans (pt rfl 2 adG (by kernel_rfl)) h)
theorem AW {r : Value × AH} (h : (
 aV [(vi 0), (.slice none 0 0), (vi 0), (vw 0)] H fun b d =>
 ld [.n, .f 7] x0 d fun g =>
 (cf g [x1]).bind fun c => (FF c.1 c.2 d).bind fun a =>
 (ag a.1 0).bind fun i =>
 (ag a.1 1).bind fun j =>
 (cG 4 b i a.2).bind fun e =>
 (aA 4 b e).bind fun k => some (Value.tuple #[k, j], e)) = some r) : FF mJ [x0, x1] H = some r :=
 fo Tryz.func47 (by kernel_rfl) h
end
section
variable (Y Z x2 x3 x4 x5 x6 x7 x8 x13 x30 x114 : Value) (H : AH)
noncomputable def my (p : List Nat) : Code := Code.sub (bM Tryz.f48) p
noncomputable def na : KK := dP PP (Tryz.f48).results.toList
noncomputable def adO : KK := CQ (my [1, 1]) na bA na
noncomputable def lm : OV := adO (ls [Y, Z, u, u, x4, x5, x6] 141) H
noncomputable def PQ : KK := CQ (my [1, 1, 1]) na bA na
noncomputable def PN : KK := en Z7 PQ
noncomputable def gh : OV := PQ (ls [Y, Z, u, u, x4, x5, x6] 141) H
noncomputable def PR : KK := CQ (my [1, 1, 1, 1]) na bA na
noncomputable def PO : KK := en Lh PR
noncomputable def qj : OV := PR (ls [Y, Z, u, u, x4, u, x6] 141) H
noncomputable def adU : KX := BX 1 PO bA
noncomputable def adV : KX := qz Lh adU
noncomputable def adQ : KK := CQ (my [1, 1, 1, 0, 4, 1]) PO adV na
noncomputable def qk : OV := adQ (ls [Y, Z, u, u, x4, x5, x6, u, u, u, u, u, u, u, u, u, u, u, u, u, u, u, u, u, u, u, u, u, u, u, u, u, u, u, u, u, u, u, u, u, u, u, u, u, u, u, u, u, u, u, u, u, u, u, u, u, u, u, u, u, u, u, u, u, u, u, u, u, u, u, u, u, u, u, u, u, u, u, u, u, u, u, u, u, u, u, u, u, u, u, u, u, u, u, u, u, u, u, u, u, u, u, u, u, u, u, u, u, u, u, u, u, u, u, x114] 33) H
noncomputable def adS : KK := CQ (my [1, 1, 1, 0, 4, 1, 2, 1]) PO adV na
noncomputable def lp : OV := adS (ls [Y, Z, u, u, x4, u, x6] 141) H
noncomputable def Uh : KK := CQ (my [1, 1, 0, 1]) PN bA na
noncomputable def oS : OV := Uh (ls [Y, Z, u, u, x4, x5, x6, u, u, u, u, u, u, u, u, u, u, u, u, u, u, u, u, u, u, u, u, u, u, u, x30] 117) H
noncomputable def Ui : KK := CQ (my [1, 1, 0, 1, 2, 1, 1]) PN bA na
noncomputable def hM : OV := Ui (ls [Y, Z, u, u, x4, x5, x6, x7, x8] 139) H
noncomputable def Jy : KK := CQ (my [1, 1, 0, 1, 2, 1, 1, 1]) PN bA na
noncomputable def ak5 : KK := en Z8 Jy
noncomputable def cU : OV := Jy (ls [Y, Z, u, u, x4, x5, x6, x7] 140) H
noncomputable def ak6 : KX := BX 0 ak5 bA
theorem jk : ar 356811923176489970264571492362373784095686639 na := rf
theorem adP : ar Z7 adO := rc jk aB jk
theorem vT : ar Z7 PQ := rc jk aB jk
theorem vU : ar Lh PR := rc jk aB jk
theorem Dz : ∀ i, ar Lh (adU i) := rb (cd vU) aB
theorem adR : ar 356811923155720782830432181848251798778806156 adQ := rc (cd vU) (cx Dz) jk
theorem adT : ar Lh adS := rc (cd vU) (cx Dz) jk
theorem XO : ar 356811923176489970264571492362373783021944716 Uh := rc (cd vT) aB jk
theorem XP : ar 356811923176489970264571492362373784095686156 Ui := rc (cd vT) aB jk
theorem GP : ar Z8 Jy := rc (cd vT) aB jk
theorem XQ : ∀ i, ar Z8 (ak6 i) := rb (cd GP) aB
theorem uK : qj Y Z x4 x6 H =
 (FF qc [Y, Z, x6] H).bind fun a =>
 some (a.1, a.2) :=
 (by kernel_rfl)
theorem mO : lp Y Z x4 x6 H =
 some ((vb false), H) :=
 (by kernel_rfl)
theorem iZ : qk Y Z x4 x5 x6 x114 H =
 av x114
 (ld [.n, .f 7] x5 H fun c =>
 ld [.n, .f 1] Y H fun d =>
 (FF gY [c, d, x6] H).bind fun a =>
 av a.1
 (st 1 [.n, .f 6] Y (vi 3) a.2 fun e =>
 lp Y Z x4 x6 e)
 (lp Y Z x4 x6 a.2))
 (ld [.n, .f 2, .f 0] Y H fun g =>
 (ai .other .eql g (vi 1)).bind fun i =>
 av i
 ((FF lx [Y, Z, x6] H).bind fun b =>
 some (b.1, b.2))
 (qj Y Z x4 x6 H)) :=
 (ct rfl (my [1, 1, 1, 0, 4, 1, 2]) (my [1, 1, 1, 0, 4, 1, 3]) (.tmp 114) (pt rfl 0 adT (by kernel_rfl)) (by kernel_rfl))
theorem iY : gh Y Z x4 x5 x6 H =
 ld [.n, .f 6] Y H fun a =>
 (ai .other .eql a (vi 2)).bind fun b =>
 qk Y Z x4 x5 x6 b H :=
 (pt rfl 0 vU (bt rfl (my [1, 1, 1, 0, 4]) 1 Dz (pt rfl 0 adR (by kernel_rfl))))
theorem lD : cU Y Z x4 x5 x6 x7 H =
 (ai .other .neq x7 (vi 0)).bind fun a =>
 av a
 ((FF bJ [Y, Z, x7] H).bind fun b =>
 some ((vb true), b.2))
 (st 1 [.n, .f 6] Y (vi 2) H fun c =>
 gh Y Z x4 x5 x6 c) :=
 (by kernel_rfl)
theorem lC : hM Y Z x4 x5 x6 x7 x8 H =
 ld [.n, .f 2, .f 0] Y H fun g =>
 (ai .other .neq g (vi 1)).bind fun e =>
 (gV e true x8).bind fun i =>
 (gB e true (oc .not i)).bind fun j =>
 (bd e j (vb false)).bind fun k =>
 av k
 (cU Y Z x4 x5 x6 (vi 5) H)
 ((oc .not x8).bind fun l =>
 av l
 (cU Y Z x4 x5 x6 (vi 1) H)
 (ld [.n, .f 2, .f 0] Y H fun m =>
 (ai .other .eql m (vi 1)).bind fun a =>
 (gV a true Y).bind fun o =>
 gk a true  [.n, .f 2, .f 2] o H fun p =>
 (gB a true (ai .other .lss p (vi 1))).bind fun q =>
 (gV a true q).bind fun c =>
 (gV c false Y).bind fun s =>
 gk c false  [.n, .f 2, .f 2] s H fun t =>
 (gB c false (ai .other .gtr t (vi 65536))).bind fun w =>
 (gB a true (bd c (vb true) w)).bind fun y =>
 (bd a y (vb false)).bind fun z =>
 av z
 (cU Y Z x4 x5 x6 (vi 4) H)
 (ld [.n, .f 2, .f 0] Y H fun A =>
 (ai .other .eql A (vi 1)).bind fun b =>
 (gV b true Y).bind fun B =>
 gk b true  [.n, .f 2, .f 3] B H fun C =>
 (gB b true (ai .other .lss C (vi 1))).bind fun D =>
 (gV b true D).bind fun d =>
 (gV d false Y).bind fun E =>
 gk d false  [.n, .f 2, .f 3] E H fun G =>
 (gB d false (ai .other .gtr G (vi 8))).bind fun I =>
 (gB b true (bd d (vb true) I)).bind fun J =>
 (bd b J (vb false)).bind fun K =>
 av K
 (cU Y Z x4 x5 x6 (vi 1) H)
 (cU Y Z x4 x5 x6 x7 H)))) :=
 (pt rfl 0 GP (bt rfl (my [1, 1, 0, 1, 2, 1, 1, 0, 4]) 0 XQ (by kernel_rfl)))
theorem lB : oS Y Z x4 x5 x6 x30 H =
 av x30
 (ld [.n, .f 2, .f 1] Y H fun b =>
 (ai .other .geq b (vi 0)).bind fun a =>
 (gV a true Y).bind fun c =>
 gk a true  [.n, .f 2, .f 1] c H fun d =>
 (gB a true (ai .other .leq d (vi 1048576))).bind fun e =>
 (bd a e (vb false)).bind fun g =>
 hM Y Z x4 x5 x6 (vi 0) g H)
 (gh Y Z x4 x5 x6 H) :=
 (ct rfl (my [1, 1, 0, 1, 2]) (my [1, 1, 0, 1, 3]) (.tmp 30) (pt rfl 1 XP (by kernel_rfl)) (by kernel_rfl))
theorem mN : lm Y Z x4 x5 x6 H =
 ld [.n, .f 6] Y H fun a =>
 (ai .other .eql a (vi 0)).bind fun b =>
 oS Y Z x4 x5 x6 b H :=
 (pt rfl 0 vT (pt rfl 0 XO (by kernel_rfl)))
noncomputable def J5 : OV := bf PP GG FF (my []) (ls [Y, Z] 146) H na bA na
theorem AV {r : Value × AH} (h : (
 ad [.n, .f 0] Y fun a =>
 (au a H).bind fun c =>
 ld [.n, .f 0] Y H fun d =>
 ld [.n, .f 7] d H fun e =>
 ld [.n, .f 2, .f 1] Y H fun g =>
 (FF eN [e, g] H).bind fun b =>
 b7 (au a b.2) (au a H) <|
 lm Y Z (vb false) c b.1 b.2) = some r) : FF bp [Y, Z] H = some r :=
 fo (t := J5 Y Z H) Tryz.func48 (by kernel_rfl) (Eq.trans (pt rfl 1 adP (by kernel_rfl)) h)
theorem MC {r : Value × AH} (h : (
 aV (Value.cells Y).toList H fun b j =>
 aV (Value.cells Z).toList j fun c a =>
 ld [.f 0] b a fun k =>
 ld [.f 0] c a fun l =>
 (ai .other .eql k l).bind fun d =>
 gk d true  [.f 2] b a fun m =>
 gk d true  [.f 2] c a fun n =>
 (gB d true (ai .other .eql m n)).bind fun o =>
 (bd d o (vb false)).bind fun e =>
 gk e true  [.f 3] b a fun p =>
 gk e true  [.f 3] c a fun q =>
 (gB e true (ai .other .eql p q)).bind fun s =>
 (bd e s (vb false)).bind fun g =>
 gk g true  [.f 1] b a fun t =>
 gk g true  [.f 1] c a fun w =>
 (gE g true a (FF fU [t, w] a)).bind fun i =>
 (bd g i.1 (vb false)).bind fun y =>
 some (y, i.2)) = some r) : FF pF [Y, Z] H = some r :=
 fo Tryz.func49 (by kernel_rfl) h
theorem MI {r : Value × AH} (h : (
 aV [(vi 0), (.slice none 0 0), (vi 0), (vw 0)] H fun a b =>
 av Z
 (ldN 4 [.n, .f 17] Y b fun e =>
 (cG 4 a e b).bind fun c =>
 (aA 4 a c).bind fun g => some (g, c))
 (ic [(0, 1), (1, 1), (2, 1), (3, 1)] [(vi 0), (.slice none 0 0), (vi 0), (vw 0)] [] fun i =>
 (cG 4 a i b).bind fun d =>
 (aA 4 a d).bind fun j => some (j, d))) = some r) : FF pG [Y, Z] H = some r :=
 fo Tryz.func50 (by kernel_rfl) h
theorem Ef {r : Value × AH} (h : (
 ld [.n, .f 1] Y H fun a =>
 jd a fun b =>
 some (b, H)) = some r) : FF kq [Y] H = some r :=
 fo Tryz.func51 (by kernel_rfl) h
theorem tk {r : Value × AH} (h : (
 (ai .other .geq Z (vi 0)).bind fun a =>
 (gV a true Z).bind fun b =>
 (gV a true Y).bind fun c =>
 gk a true  [.n, .f 10] c H fun d =>
 (G3 (yv a) true (jd d some) (some undef)).bind fun e =>
 (gB a true (ai .other .lss b e)).bind fun g =>
 (bd a g (vb false)).bind fun i =>
 some (i, H)) = some r) : FF fX [Y, Z] H = some r :=
 fo Tryz.func52 (by kernel_rfl) h
theorem As {r : Value × AH} (h : (
 aV (Value.cells x2).toList H fun a b =>
 (aA 3 a b).bind fun e =>
 (FF dz [Y, Z, (vi 1), e] b).bind fun c =>
 (aA 3 a c.2).bind fun f =>
 (FF fB [Y, f] c.2).bind fun d =>
 some (d.1, d.2)) = some r) : FF dy [Y, Z, x2] H = some r :=
 fo Tryz.func53 (by kernel_rfl) h
theorem A8 {r : Value × AH} (h : (
 aV [(vi 0), (vi 0), (vi 0)] H fun a b =>
 ld [.n, .f 1] Y b fun d =>
 ic [(0, 1), (1, 1), (2, 1)] [(vi 0), (vi 0), (vi 0)] [(0, Z), (1, d), (2, x2)] fun e =>
 (cG 3 a e b).bind fun c =>
 (aA 3 a c).bind fun g => some (g, c)) = some r) : FF ed [Y, Z, x2] H = some r :=
 fo Tryz.func54 (by kernel_rfl) h
theorem nH {r : Value × AH} (h : (
 ld [.n, .f 2] Y H fun a =>
 jd a fun b =>
 (cg (some .u64) b).bind fun c =>
 (ai .other .rem Z c).bind fun d =>
 (cg (some .i64) d).bind fun e =>
 some (e, H)) = some r) : FF dq [Y, Z] H = some r :=
 fo Tryz.func55 (by kernel_rfl) h
theorem Au {r : Value × AH} (h : (
 aV (Value.cells x2).toList H fun b a =>
 (aA 3 b a).bind fun c =>
 (FF dz [Y, Z, (vi 5), c] a).bind fun d =>
 some (Value.tuple #[], d.2)) = some r) : FF mC [Y, Z, x2] H = some r :=
 fo Tryz.func56 (by kernel_rfl) h
theorem apF {r : Value × AH} (h : (
 (ai .slice .eql Y (.slice none 0 0)).bind fun b =>
 av b
 (some ((.slice none 0 0), H))
 (FD 0 7 [(vi 0), (vi 0), (vi 0), (vi 0), (.slice none 0 0), (vi 0), (vw 0)] [] H fun c d =>
 (fN 7 72 c Y d).bind fun a =>
 some (a.1, a.2))) = some r) : FF afL [Y] H = some r :=
 fo Tryz.func57 (by kernel_rfl) h
theorem apJ {r : Value × AH} (h : (
 jd Y fun a =>
 (FF afO [Y, a, Z] H).bind fun b =>
 some (Value.tuple #[], b.2)) = some r) : FF afN [Y, Z] H = some r :=
 fo Tryz.func58 (by kernel_rfl) h
theorem rM {r : Value × AH} (h : (
 aV (Value.cells Y).toList H fun c d =>
 aV (Value.cells Z).toList d fun e a =>
 ld [.f 0] c a fun g =>
 ld [.f 0] e a fun i =>
 (FF j0 [g, i] a).bind fun b =>
 some (b.1, b.2)) = some r) : FF dM [Y, Z] H = some r :=
 fo Tryz.func59 (by kernel_rfl) h
theorem JX {r : Value × AH} (h : (
 aV (Value.cells Y).toList H fun a i =>
 aV [(vi 0), (.slice none 0 0), (vi 0), (vw 0)] i fun b c =>
 ld [.f 1] a c fun j =>
 (FF afJ [j] c).bind fun d =>
 st 1 [.f 1] a d.1 d.2 fun e =>
 (aA 4 a e).bind fun k =>
 (cG 4 b k e).bind fun g =>
 (aA 4 b g).bind fun l => some (l, g)) = some r) : FF nk [Y] H = some r :=
 fo Tryz.func60 (by kernel_rfl) h
theorem F8 {r : Value × AH} (h : (
 aV [(vi 0), (vi 0), (vi 0)] H fun a c =>
 ic [(0, 1), (1, 1), (2, 1)] [(vi 0), (vi 0), (vi 0)] [(0, (vi 10)), (1, Y), (2, Z)] fun d =>
 (cG 3 a d c).bind fun b =>
 (aA 3 a b).bind fun e => some (e, b)) = some r) : FF jx [Y, Z] H = some r :=
 fo Tryz.func61 (by kernel_rfl) h
theorem Av {r : Value × AH} (h : (
 aV (Value.cells x2).toList H fun b c =>
 (aA 3 b c).bind fun d =>
 (FF fB [Y, d] c).bind fun a =>
 (ai .other .neq a.1 x3).bind fun e =>
 av e
 ((aA 3 b a.2).bind fun f =>
 (FF dz [Y, Z, (vi 4), f] a.2).bind fun g =>
 some ((vb false), g.2))
 ((aA 3 b a.2).bind fun i =>
 (FF jr [Y, Z, i, x4] a.2).bind fun j =>
 some ((vb true), j.2))) = some r) : FF fC [Y, Z, x2, x3, x4] H = some r :=
 fo Tryz.func62 (by kernel_rfl) h
theorem Fe {r : Value × AH} (h : (
 aV [(vi 0), (vi 0), (vi 0)] H fun a c =>
 ic [(0, 1), (1, 1), (2, 1)] [(vi 0), (vi 0), (vi 0)] [(0, (vi 8)), (1, Y)] fun d =>
 (cG 3 a d c).bind fun b =>
 (aA 3 a b).bind fun e => some (e, b)) = some r) : FF kA [Y] H = some r :=
 fo Tryz.func63 (by kernel_rfl) h
theorem Eh {r : Value × AH} (h : (
 aV (Value.cells Y).toList H fun a l =>
 ld [.f 0] a l fun m =>
 (FF fD [m, (vi 1), (vi 4)] l).bind fun b =>
 gk b.1 true  [.f 1] a b.2 fun n =>
 (gE b.1 true b.2 (FF fD [n, (vi 1), (vi 4)] b.2)).bind fun c =>
 (bd b.1 c.1 (vb false)).bind fun g =>
 gk g true  [.f 2] a c.2 fun o =>
 (gE g true c.2 (FF fD [o, (vi 1), (vi 6)] c.2)).bind fun d =>
 (bd g d.1 (vb false)).bind fun i =>
 gk i true  [.f 3] a d.2 fun p =>
 (gE i true d.2 (FF fD [p, (vi 0), (vi 40)] d.2)).bind fun e =>
 (bd i e.1 (vb false)).bind fun j =>
 gk j true  [.f 4] a e.2 fun q =>
 (gB j true (ai .other .geq q (vw 1))).bind fun s =>
 (bd j s (vb false)).bind fun k =>
 gk k true  [.f 4] a e.2 fun t =>
 (gB k true (ai .other .leq t (vw 4611686018427387904))).bind fun w =>
 (bd k w (vb false)).bind fun y =>
 some (y, e.2)) = some r) : FF nV [Y] H = some r :=
 fo Tryz.func64 (by kernel_rfl) h
theorem Qc (H : AH) {r : Value × AH} (h : (
 FU H fun a b =>
 ic [(0, 1), (1, 1)] [(.map none), (.slice none 0 0)] [(0, a)] fun c =>
 aV (Value.cells c).toList b fun d e =>
 some (d, e)) = some r) : FF yr [] H = some r :=
 fo Tryz.func65 (by kernel_rfl) h
theorem JF {r : Value × AH} (h : (
 (iC [Z, (vi 1)]).bind fun a =>
 (jM [a, (vi 4)]).bind fun b =>
 FU H fun c d =>
 ic [(0, 1), (1, 1), (2, 1), (3, 1), (4, 1)] [(.pointer none), (vi 0), (.map none), Value.nilFunc, Value.nilFunc] [(0, Y), (1, b), (2, c), (3, (.func (.func bI) #[(vi 9)] #[])), (4, (.func (.func bI) #[(vi 14)] #[]))] fun e =>
 aV (Value.cells e).toList d fun f g =>
 some (f, g)) = some r) : FF rx [Y, Z] H = some r :=
 fo Tryz.func66 (by kernel_rfl) h
theorem KL {r : Value × AH} (h : (
 (iC [Z, (vi 1)]).bind fun a =>
 (jM [a, (vi 4)]).bind fun b =>
 (iC [x2, (vi 1)]).bind fun c =>
 (jM [c, (vi 4)]).bind fun d =>
 ic [(0, 1), (1, 1), (2, 1)] [(.pointer none), (vi 0), (vi 0)] [(0, Y), (1, b), (2, d)] fun e =>
 aV (Value.cells e).toList H fun f g =>
 some (f, g)) = some r) : FF rH [Y, Z, x2] H = some r :=
 fo Tryz.func67 (by kernel_rfl) h
theorem M9 {r : Value × AH} (h : (
 (iC [Z, (vi 1)]).bind fun a =>
 (jM [a, (vi 6)]).bind fun b =>
 FU H fun c d =>
 FU d fun e f =>
 ic [(0, 1), (1, 1), (2, 1), (3, 1)] [(.pointer none), (vi 0), (.map none), (.map none)] [(0, Y), (1, b), (2, c), (3, e)] fun g =>
 aV (Value.cells g).toList f fun i j =>
 some (i, j)) = some r) : FF us [Y, Z] H = some r :=
 fo Tryz.func68 (by kernel_rfl) h
theorem Lw {r : Value × AH} (h : (
 aV (Value.cells Y).toList H fun c b =>
 ld [.f 0] c b fun d =>
 ld [.f 3] c b fun e =>
 (FF rE [d, e] b).bind fun a =>
 FU a.2 fun g i =>
 FU i fun j k =>
 ic [(0, 1), (1, 1), (2, 1), (3, 1), (4, 1), (5, 1), (6, 1), (7, 1), (8, 3)] [Value.nilFunc, Value.nilFunc, Value.nilFunc, (vw 0), (vw 0), (vi 0), (.map none), (.map none), (vb false), (vi 0), (vw 0)] [(0, (.func (.func ut) #[a.1] #[])), (1, (.func (.func wr) #[a.1] #[])), (2, (.func (.func wq) #[a.1] #[])), (6, g), (7, j)] fun l =>
 aV (Value.cells l).toList k fun m n =>
 some (m, n)) = some r) : FF ul [Y] H = some r :=
 fo Tryz.func69 (by kernel_rfl) h
theorem AP {r : Value × AH} (h : (
 (iC [Z, (vi 1)]).bind fun a =>
 (jM [a, (vi 4)]).bind fun b =>
 ic [(0, 1), (1, 1), (2, 1), (3, 1)] [(.pointer none), (vi 0), (.slice none 0 0), (.slice none 0 0)] [(0, Y), (1, b)] fun c =>
 aV (Value.cells c).toList H fun d e =>
 some (d, e)) = some r) : FF mF [Y, Z] H = some r :=
 fo Tryz.func70 (by kernel_rfl) h
theorem AS {r : Value × AH} (h : (
 (iC [Z, (vi 1)]).bind fun a =>
 (jM [a, (vi 4)]).bind fun b =>
 (iC [x2, (vi 1)]).bind fun c =>
 (jM [c, (vi 4)]).bind fun d =>
 ic [(0, 1), (1, 1), (2, 1)] [(.pointer none), (vi 0), (vi 0)] [(0, Y), (1, b), (2, d)] fun e =>
 aV (Value.cells e).toList H fun f g =>
 some (f, g)) = some r) : FF mH [Y, Z, x2] H = some r :=
 fo Tryz.func71 (by kernel_rfl) h
theorem Eu {r : Value × AH} (h : (
 (iC [Z, (vi 1)]).bind fun a =>
 (jM [a, (vi 6)]).bind fun b =>
 ic [(0, 1), (1, 1), (2, 1), (3, 1), (4, 1), (5, 1)] [(.pointer none), (vi 0), (.slice none 0 0), (.slice none 0 0), (.slice none 0 0), (.slice none 0 0)] [(0, Y), (1, b)] fun c =>
 aV (Value.cells c).toList H fun d e =>
 some (d, e)) = some r) : FF nY [Y, Z] H = some r :=
 fo Tryz.func72 (by kernel_rfl) h
theorem Et {r : Value × AH} (h : (
 aV (Value.cells Y).toList H fun b a =>
 ld [.f 0] b a fun d =>
 ld [.f 3] b a fun e =>
 (FF afG [d, e] a).bind fun c =>
 ic [(0, 1), (1, 1), (2, 1), (3, 1), (4, 1), (5, 1), (6, 1), (7, 1), (8, 1)] [(.pointer none), (vw 0), (vw 0), (vi 0), (.slice none 0 0), (.slice none 0 0), (vb false), (vi 0), (vw 0)] [(0, c.1)] fun g =>
 aV (Value.cells g).toList c.2 fun i j =>
 some (i, j)) = some r) : FF nX [Y] H = some r :=
 fo Tryz.func73 (by kernel_rfl) h
theorem Eo {r : Value × AH} (h : (
 (ai .other .lss Y (vw 1)).bind fun a =>
 (gV a false Y).bind fun d =>
 (gB a false (ai .other .gtr d (vw 4611686018427387904))).bind fun e =>
 (bd a (vb true) e).bind fun b =>
 (gV b false Z).bind fun f =>
 (gB b false (ai .other .lss f (vi 1))).bind fun g =>
 (bd b (vb true) g).bind fun c =>
 (gV c false Z).bind fun i =>
 (gB c false (ai .other .gtr i (vi 65536))).bind fun j =>
 (bd c (vb true) j).bind fun k =>
 av k
 (some (Value.tuple #[(vw 0), (vb false)], H))
 ((cg (some .u64) Z).bind fun l =>
 (ai .other .quo Y l).bind fun m =>
 (iC [m, (vw 1)]).bind fun n =>
 some (Value.tuple #[n, (vb true)], H))) = some r) : FF ks [Y, Z] H = some r :=
 fo Tryz.func74 (by kernel_rfl) h
theorem lA {r : Value × AH} (h : (
 aV (Value.cells x2).toList H fun b d =>
 ld [.n, .f 10] Y d fun j =>
 jd j fun e =>
 ld [.n, .f 0] Y d fun k =>
 ic [(0, 1), (1, 1), (2, 1)] [(vi 0), (vi 0), (vi 0)] [(0, (vi 13)), (1, e)] fun l =>
 (FF gg [k, Z, l] d).bind fun a =>
 ad [.n, .f 10] Y fun g =>
 (au g a.2).bind fun m =>
 (aA 3 b a.2).bind fun o =>
 ld [.n, .f 0] Y a.2 fun p =>
 ld [.f 1] b a.2 fun q =>
 (FF uu [p, e, q] a.2).bind fun c =>
 b7 (au g c.2) (au g a.2) <|
 b7 (aA 3 b c.2) (aA 3 b a.2) <|
 ic [(0, 3), (3, 1)] [(vi 0), (vi 0), (vw 0), (.pointer none)] [(0, o), (1, c.1)] fun s =>
 FD 1 4 [(vi 0), (vi 0), (vw 0), (.pointer none)] [(0, s)] c.2 fun t w =>
 (fN 4 32 m t w).bind fun i =>
 st 1 [.n, .f 10] Y i.1 i.2 fun y =>
 some (e, y)) = some r) : FF d8 [Y, Z, x2] H = some r :=
 fo Tryz.func75 (by kernel_rfl) h
theorem wM {r : Value × AH} (h : (
 aV (Value.cells x2).toList H fun o c =>
 ld [.n, .f 10] Y c fun q =>
 jd q fun e =>
 ad [.n, .f 5] Y fun g =>
 (au g c).bind fun s =>
 (FF cA [(vi 13), e, (vi 0)] c).bind fun i =>
 b7 (au g i.2) (au g c) <|
 (FF cu [s, Z, (vi 6), i.1] i.2).bind fun j =>
 ld [.n, .f 10] Y j.2 fun t =>
 (aA 3 o j.2).bind fun w =>
 FD 1 3 [(vi 0), (vi 0), (vw 0)] [(0, w)] j.2 fun y d =>
 (fN 3 24 t y d).bind fun a =>
 ad [.n, .f 11] Y fun b =>
 (au b a.2).bind fun z =>
 b7 (au b d) (au b a.2) <|
 ad [.n, .f 5] Y fun k =>
 (au k a.2).bind fun A =>
 b7 (au k d) (au k a.2) <|
 ad [.f 1] o fun l =>
 (au l a.2).bind fun B =>
 b7 (au l d) (au l a.2) <|
 (FF nZ [A, e, B] a.2).bind fun m =>
 b7 (au b m.2) (au b a.2) <|
 FD 1 1 [(.pointer none)] [(0, m.1)] m.2 fun C D =>
 (fN 1 8 z C D).bind fun p =>
 st 1 [.n, .f 10] Y a.1 p.2 fun E =>
 st 1 [.n, .f 11] Y p.1 E fun G =>
 some (e, G)) = some r) : FF gX [Y, Z, x2] H = some r :=
 fo Tryz.func76 (by kernel_rfl) h
theorem u1 {r : Value × AH} (h : (
 (ai .other .lss x4 (vi 0)).bind fun a =>
 (gV a false x4).bind fun g =>
 (gB a false (ai .other .gtr g (vi 1048576))).bind fun i =>
 (bd a (vb true) i).bind fun b =>
 (gV b false x5).bind fun j =>
 (gB b false (ai .other .lss j (vi 0))).bind fun k =>
 (bd b (vb true) k).bind fun c =>
 (gV c false x5).bind fun l =>
 (gB c false (ai .other .geq l (vi 4294967296))).bind fun m =>
 (bd c (vb true) m).bind fun o =>
 av o
 (some ((vb false), H))
 (ad [.n, .f 0] Y fun d =>
 (au d H).bind fun p =>
 (FF jx [x2, x3] H).bind fun e =>
 b7 (au d e.2) (au d H) <|
 (ai .other .add x4 (vi 1)).bind fun q =>
 (cg (some .u64) q).bind fun s =>
 (ai .other .shl s (vw 32)).bind fun t =>
 (cg (some .u64) x5).bind fun w =>
 (ai .other .or t w).bind fun y =>
 (FF dI [p, Z, e.1, y] e.2).bind fun z =>
 some ((vb true), z.2))) = some r) : FF gy [Y, Z, x2, x3, x4, x5] H = some r :=
 fo Tryz.func77 (by kernel_rfl) h
theorem yL {r : Value × AH} (h : (
 (ai .other .lss x4 (vi 0)).bind fun b =>
 (gV b false x4).bind fun g =>
 (gB b false (ai .other .gtr g (vi 1048576))).bind fun i =>
 (bd b (vb true) i).bind fun c =>
 (gV c false x5).bind fun j =>
 (gB c false (ai .other .lss j (vi 0))).bind fun k =>
 (bd c (vb true) k).bind fun a =>
 (gV a false x5).bind fun l =>
 (gB a false (cg (some .u64) l)).bind fun m =>
 (gB a false (ai .other .geq m (vw 4294967296))).bind fun o =>
 (bd a (vb true) o).bind fun p =>
 av p
 (some ((vb false), H))
 (ad [.n, .f 0] Y fun d =>
 (au d H).bind fun q =>
 (FF cA [(vi 10), x2, x3] H).bind fun e =>
 b7 (au d e.2) (au d H) <|
 (ai .other .add x4 (vi 1)).bind fun s =>
 (cg (some .u64) s).bind fun t =>
 (ai .other .mul t (vw 4294967296)).bind fun w =>
 (cg (some .u64) x5).bind fun y =>
 (ai .other .add w y).bind fun z =>
 (FF eA [q, Z, e.1, z] e.2).bind fun A =>
 some ((vb true), A.2))) = some r) : FF iM [Y, Z, x2, x3, x4, x5] H = some r :=
 fo Tryz.func78 (by kernel_rfl) h
noncomputable def tG (p : List Nat) : Code := Code.sub (bM Tryz.f79) p
noncomputable def q6 : KK := dP PP (Tryz.f79).results.toList
noncomputable def adY : KK := CQ (tG [1, 1]) q6 bA q6
noncomputable def zn : OV := adY (ls [Y, Z, x2, u, u, u, x6] 23) H
noncomputable def PS : KK := CQ (tG [1, 1, 1]) q6 bA q6
noncomputable def adW : KK := en ml PS
noncomputable def zo : OV := PS (ls [u, u, u, u, u, u, x6] 23) H
noncomputable def ad0 : KK := CQ (tG [1, 1, 0, 1]) adW bA q6
noncomputable def zp : OV := ad0 (ls [Y, Z, x2, u, u, u, x6, x7] 22) H
noncomputable def PV : KX := BX 0 adW bA
noncomputable def Jz : KX := qz ml PV
noncomputable def PT : KK := xy (tG [1, 1, 0, 1, 4, 5]) Jz q6
noncomputable def adX : KK := en jO PT
noncomputable def ne : OV := PT (ls [Y, Z, x2, u, u, u, x6, x7] 22) H
noncomputable def ad2 : KK := CQ (tG [1, 1, 0, 1, 4, 5, 1]) adX Jz q6
noncomputable def zq : OV := ad2 (ls [Y, Z, x2, u, u, u, x6, x7] 22) H
noncomputable def PU : KK := CQ (tG [1, 1, 0, 1, 4, 5, 1, 1]) adX Jz q6
noncomputable def aoR : KK := en jO PU
noncomputable def zr : OV := PU (ls [Y, Z, x2, u, u, u, x6, x7] 22) H
noncomputable def aoS : KX := BX 1 aoR Jz
noncomputable def tH : OV := PV 0 (ls [u, u, u, u, u, u, x6] 23) H
theorem nb : ar ml q6 := rf
theorem adZ : ar 1073741752 adY := rc nb aB nb
theorem DA : ar ml PS := rc nb aB nb
theorem ad1 : ar jO ad0 := rc (cd DA) aB nb
theorem q7 : ∀ i, ar ml (PV i) := rb (cd DA) aB
theorem vV : ar jO PT := rl (cx q7) nb
theorem ad3 : ar jO ad2 := rc (cd vV) (cx q7) nb
theorem Mq : ar jO PU := rc (cd vV) (cx q7) nb
theorem ad4 : ∀ i, ar jO (aoS i) := rb (cd Mq) (cx q7)
theorem DL : zo x6 H =
 some ((vb true), H) :=
 (by kernel_rfl)
theorem DO : zr Y Z x2 x6 x7 H =
 (ai .other .add x7 (vi 1)).bind fun a =>
 ne Y Z x2 x6 a H :=
 (by kernel_rfl)
theorem DN : zq Y Z x2 x6 x7 H =
 ldN 5 [.i 5 x7] Y H fun b =>
 ldN 5 [.i 5 x7] Z H fun d =>
 (cf x2 [b, d]).bind fun c => (FF c.1 c.2 H).bind fun a =>
 (oc .not a.1).bind fun e =>
 av e
 (some ((vb false), a.2))
 (zr Y Z x2 x6 x7 a.2) :=
 (pt rfl 0 Mq (bt rfl (tG [1, 1, 0, 1, 4, 5, 1, 0, 4]) 1 ad4 (by kernel_rfl)))
theorem yd : tH x6 H = zo x6 H :=
 (by kernel_rfl)
theorem ra : ne Y Z x2 x6 x7 H =
 jd Y fun a =>
 (ai .other .lss x7 a).bind fun b =>
 av b
 (zq Y Z x2 x6 x7 H)
 (tH x6 H) :=
 yl rfl vV (pt rfl 0 ad3 (by kernel_rfl))
theorem DM : zp Y Z x2 x6 x7 H =
 ne Y Z x2 x6 x7 H :=
 (bt rfl (tG [1, 1, 0, 1, 4]) 0 q7 (li rfl (tG [1, 1, 0, 1, 4, 5]) vV (by kernel_rfl)))
theorem DK : zn Y Z x2 x6 H =
 zp Y Z x2 x6 (vi 0) H :=
 (pt rfl 0 DA (pt rfl 0 ad1 (by kernel_rfl)))
noncomputable def aeU : OV := bf PP GG FF (tG []) (ls [Y, Z, x2] 27) H q6 bA q6
theorem Mz {r : Value × AH} (h : (
 jd Y fun a =>
 jd Z fun b =>
 (ai .other .neq a b).bind fun c =>
 av c
 (some ((vb false), H))
 (zn Y Z x2 (vb false) H)) = some r) : FF um [Y, Z, x2] H = some r :=
 fo (t := aeU Y Z x2 H) Tryz.func79 (by kernel_rfl) (Eq.trans (pt rfl 1 adZ (by kernel_rfl)) h)
theorem nS {r : Value × AH} (h : (
 aV (Value.cells Y).toList H fun b c =>
 aV (Value.cells Z).toList c fun d a =>
 (aA 5 b a).bind fun e =>
 (aA 5 d a).bind fun f =>
 (ai (.flat 5) .eql e f).bind fun g =>
 some (g, a)) = some r) : FF ca [Y, Z] H = some r :=
 fo Tryz.func80 (by kernel_rfl) h
theorem Qv {r : Value × AH} (h : (
 aV [(vi 0), (vi 0), (vi 0)] H fun a c =>
 ic [(0, 1), (1, 1), (2, 1)] [(vi 0), (vi 0), (vi 0)] [(0, Y), (1, Z), (2, x2)] fun d =>
 (cG 3 a d c).bind fun b =>
 (aA 3 a b).bind fun e => some (e, b)) = some r) : FF cA [Y, Z, x2] H = some r :=
 fo Tryz.func84 (by kernel_rfl) h
theorem yJ {r : Value × AH} (h : (
 (FF pH [x2, x3] H).bind fun b =>
 (ag b.1 0).bind fun g =>
 (ag b.1 1).bind fun a =>
 (gV a true Y).bind fun i =>
 FQ a true  [.n, .f 0] i fun d =>
 (gB a true (au d b.2)).bind fun j =>
 (gV a true Z).bind fun k =>
 (gV a true Y).bind fun l =>
 gk a true  [.n, .f 1] l b.2 fun m =>
 (gE a true b.2 (FF cA [(vi 11), m, (vi 0)] b.2)).bind fun c =>
 b7 (au d c.2) (au d b.2) <|
 (gV a true x2).bind fun o =>
 (gV a true g).bind fun p =>
 (gE a true c.2 (FF gM [j, k, c.1, o, p] c.2)).bind fun e =>
 (bd a e.1 (vb false)).bind fun q =>
 some (q, e.2)) = some r) : FF iL [Y, Z, x2, x3] H = some r :=
 fo Tryz.func86 (by kernel_rfl) h
theorem rL {r : Value × AH} (h : (
 ld [.n, .f 11] Y H fun a =>
 (eZ .int a Z x2 H).bind fun b =>
 some (Value.tuple #[], b)) = some r) : FF iq [Y, Z, x2] H = some r :=
 fo Tryz.func87 (by kernel_rfl) h
theorem uH {r : Value × AH} (h : (
 ld [.n, .f 12] Y H fun b =>
 FD 2 1 [(vi 0)] [(0, Z), (1, x2)] H fun c d =>
 (fN 1 8 b c d).bind fun a =>
 st 1 [.n, .f 12] Y a.1 a.2 fun e =>
 some (Value.tuple #[], e)) = some r) : FF jv [Y, Z, x2] H = some r :=
 fo Tryz.func88 (by kernel_rfl) h
noncomputable def Uj (p : List Nat) : Code := Code.sub (bM Tryz.f89) p
noncomputable def DB : KK := dP PP (Tryz.f89).results.toList
noncomputable def ad5 : KK := CQ (Uj [1]) DB bA DB
noncomputable def zh : OV := ad5 (ls [Y, Z, u, u, x4, x5] 45) H
noncomputable def PW : KK := CQ (Uj [1, 1]) DB bA DB
noncomputable def aoT : KK := en R6 PW
noncomputable def qF : OV := PW (ls [Y, Z, u, u, x4, x5] 45) H
noncomputable def aoU : KX := BX 0 aoT bA
theorem Bw : ar 2251799813685199 DB := rf
theorem ad6 : ar R6 ad5 := rc Bw aB Bw
theorem Mr : ar R6 PW := rc Bw aB Bw
theorem ad7 : ∀ i, ar R6 (aoU i) := rb (cd Mr) aB
theorem Cq : qF Y Z x4 x5 H =
 (FF j3 [Y, Z] H).bind fun a =>
 (ag a.1 0).bind fun c =>
 (ag a.1 1).bind fun d =>
 (cG 4 x4 c a.2).bind fun b =>
 (aA 4 x4 b).bind fun e => some (Value.tuple #[e, d], b) :=
 (by kernel_rfl)
theorem Cp : zh Y Z x4 x5 H =
 ld [.n, .f 2, .f 2] Y H fun i =>
 (ai .other .lss i (vi 1)).bind fun a =>
 (gV a false Y).bind fun j =>
 gk a false  [.n, .f 2, .f 2] j H fun k =>
 (gB a false (ai .other .gtr k (vi 65536))).bind fun l =>
 (bd a (vb true) l).bind fun m =>
 av m
 ((FF jb [Y, Z, (vi 3)] H).bind fun c =>
 (ag c.1 0).bind fun o =>
 (ag c.1 1).bind fun p =>
 (cG 4 x4 o c.2).bind fun e =>
 (aA 4 x4 e).bind fun q => some (Value.tuple #[q, p], e))
 (ld [.n, .f 2, .f 1] Y H fun s =>
 (ai .other .lss s (vi 0)).bind fun b =>
 (gV b false Y).bind fun t =>
 gk b false  [.n, .f 2, .f 1] t H fun w =>
 (gB b false (ai .other .gtr w (vi 1048576))).bind fun y =>
 (bd b (vb true) y).bind fun z =>
 av z
 ((FF jb [Y, Z, (vi 5)] H).bind fun d =>
 (ag d.1 0).bind fun A =>
 (ag d.1 1).bind fun B =>
 (cG 4 x4 A d.2).bind fun g =>
 (aA 4 x4 g).bind fun C => some (Value.tuple #[C, B], g))
 (qF Y Z x4 x5 H)) :=
 (pt rfl 0 Mr (bt rfl (Uj [1, 0, 4]) 0 ad7 (by kernel_rfl)))
noncomputable def aaU : OV := bf PP GG FF (Uj []) (ls [Y, Z] 49) H DB bA DB
theorem LB {r : Value × AH} (h : (
 aV [(vi 0), (.slice none 0 0), (vi 0), (vw 0)] H fun a b =>
 zh Y Z a (vb false) b) = some r) : FF mA [Y, Z] H = some r :=
 fo (t := aaU Y Z H) Tryz.func89 (by kernel_rfl) (Eq.trans (pt rfl 0 ad6 (by kernel_rfl)) h)
theorem yV {r : Value × AH} (h : (
 aV [(vi 0), (.slice none 0 0), (vi 0), (vw 0)] H fun a g =>
 (FF gu [Y] g).bind fun b =>
 av b.1
 ((FF dp [Y, Z, (vi 5)] b.2).bind fun c =>
 (ag c.1 0).bind fun i =>
 (ag c.1 1).bind fun j =>
 (cG 4 a i c.2).bind fun e =>
 (aA 4 a e).bind fun k => some (Value.tuple #[k, j], e))
 ((FF cZ [Y, Z] b.2).bind fun d =>
 (ag d.1 0).bind fun l =>
 (ag d.1 1).bind fun m =>
 (cG 4 a l d.2).bind fun f =>
 (aA 4 a f).bind fun n => some (Value.tuple #[n, m], f))) = some r) : FF eF [Y, Z] H = some r :=
 fo Tryz.func90 (by kernel_rfl) h
noncomputable def Uk (p : List Nat) : Code := Code.sub (bM Tryz.f91) p
noncomputable def DC : KK := dP PP (Tryz.f91).results.toList
noncomputable def ad8 : KK := CQ (Uk [1]) DC bA DC
noncomputable def ql : OV := ad8 (ls [Y, Z, u, u, x4, x5] 53) H
noncomputable def PX : KK := CQ (Uk [1, 1]) DC bA DC
noncomputable def aoV : KK := en R0 PX
noncomputable def qm : OV := PX (ls [Y, Z, u, u, x4, x5] 53) H
noncomputable def aoW : KX := BX 0 aoV bA
theorem Bx : ar 576460752303423439 DC := rf
theorem ad9 : ar R0 ad8 := rc Bx aB Bx
theorem Ms : ar R0 PX := rc Bx aB Bx
theorem aeA : ∀ i, ar R0 (aoW i) := rb (cd Ms) aB
theorem uT : qm Y Z x4 x5 H =
 (FF cP [Y, Z] H).bind fun a =>
 (ag a.1 0).bind fun c =>
 (ag a.1 1).bind fun d =>
 (cG 4 x4 c a.2).bind fun b =>
 (aA 4 x4 b).bind fun e => some (Value.tuple #[e, d], b) :=
 (by kernel_rfl)
theorem uS : ql Y Z x4 x5 H =
 (FF gu [Y] H).bind fun a =>
 av a.1
 ((FF dp [Y, Z, (vi 1)] a.2).bind fun d =>
 (ag d.1 0).bind fun l =>
 (ag d.1 1).bind fun m =>
 (cG 4 x4 l d.2).bind fun i =>
 (aA 4 x4 i).bind fun o => some (Value.tuple #[o, m], i))
 (ld [.n, .f 2, .f 2] Y a.2 fun p =>
 (ai .other .lss p (vi 1)).bind fun b =>
 (gV b false Y).bind fun q =>
 gk b false  [.n, .f 2, .f 2] q a.2 fun s =>
 (gB b false (ai .other .gtr s (vi 65536))).bind fun t =>
 (bd b (vb true) t).bind fun w =>
 av w
 ((FF dp [Y, Z, (vi 4)] a.2).bind fun e =>
 (ag e.1 0).bind fun y =>
 (ag e.1 1).bind fun z =>
 (cG 4 x4 y e.2).bind fun j =>
 (aA 4 x4 j).bind fun A => some (Value.tuple #[A, z], j))
 (ld [.n, .f 2, .f 3] Y a.2 fun B =>
 (ai .other .lss B (vi 1)).bind fun c =>
 (gV c false Y).bind fun C =>
 gk c false  [.n, .f 2, .f 3] C a.2 fun D =>
 (gB c false (ai .other .gtr D (vi 8))).bind fun E =>
 (bd c (vb true) E).bind fun G =>
 av G
 ((FF dp [Y, Z, (vi 1)] a.2).bind fun g =>
 (ag g.1 0).bind fun I =>
 (ag g.1 1).bind fun J =>
 (cG 4 x4 I g.2).bind fun k =>
 (aA 4 x4 k).bind fun K => some (Value.tuple #[K, J], k))
 (qm Y Z x4 x5 a.2))) :=
 (pt rfl 0 Ms (bt rfl (Uk [1, 0, 4]) 0 aeA (by kernel_rfl)))
noncomputable def Ki : OV := bf PP GG FF (Uk []) (ls [Y, Z] 57) H DC bA DC
theorem AX {r : Value × AH} (h : (
 aV [(vi 0), (.slice none 0 0), (vi 0), (vw 0)] H fun a b =>
 ql Y Z a (vb false) b) = some r) : FF fF [Y, Z] H = some r :=
 fo (t := Ki Y Z H) Tryz.func91 (by kernel_rfl) (Eq.trans (pt rfl 0 ad9 (by kernel_rfl)) h)
noncomputable def aeB (p : List Nat) : Code := Code.sub (bM Tryz.f92) p
noncomputable def DD : KK := dP PP (Tryz.f92).results.toList
noncomputable def aeC : KK := CQ (aeB [1, 1]) DD bA DD
noncomputable def mM : OV := aeC (ls [Y, u, u, u, x4, x5] 15) H
noncomputable def aeE : KK := CQ (aeB [1, 1, 1]) DD bA DD
noncomputable def iX : OV := aeE (ls [u, u, u, u, x4, x5] 15) H
theorem By : ar 2097135 DD := rf
theorem aeD : ar 2097102 aeC := rc By aB By
theorem aeF : ar 2097103 aeE := rc By aB By
theorem jR : iX x4 x5 H =
 some (x5, H) :=
 (by kernel_rfl)
theorem qx : mM Y x4 x5 H =
 (ai .other .lss x5 (vi 0)).bind fun a =>
 av a
 (ld [.n, .f 1] Y H fun b =>
 (ai .other .add x5 b).bind fun c =>
 iX x4 c H)
 (iX x4 x5 H) :=
 (pt rfl 0 aeF (by kernel_rfl))
noncomputable def AU : OV := bf PP GG FF (aeB []) (ls [Y, Z] 19) H DD bA DD
theorem uJ {r : Value × AH} (h : (
 ld [.n, .f 1] Y H fun a =>
 (ai .other .rem Z a).bind fun b =>
 mM Y (vi 0) b H) = some r) : FF eN [Y, Z] H = some r :=
 fo (t := AU Y Z H) Tryz.func92 (by kernel_rfl) (Eq.trans (pt rfl 1 aeD (by kernel_rfl)) h)
theorem yM {r : Value × AH} (h : (
 ic [(0, 1), (1, 1), (2, 1), (3, 1)] [(vi 0), (.slice none 0 0), (vi 0), (vw 0)] [(0, x2)] fun b =>
 st 4 [.n, .f 17] Y b H fun a =>
 ld [.n, .f 0] Y a fun c =>
 ld [.n, .f 1] Y a fun d =>
 ldN 4 [.n, .f 17] Y a fun e =>
 (FF afH [c, Z, d, e] a).bind fun g =>
 some (Value.tuple #[], g.2)) = some r) : FF bJ [Y, Z, x2] H = some r :=
 fo Tryz.func93 (by kernel_rfl) h
noncomputable def aeG (p : List Nat) : Code := Code.sub (bM Tryz.f94) p
noncomputable def DE : KK := dP PP (Tryz.f94).results.toList
noncomputable def aeH : KK := CQ (aeG [1, 1, 1]) DE bA DE
noncomputable def agK : OV := aeH (ls [Y, u, x2, x3, u, u, x6] 88) H
noncomputable def aeJ : KK := CQ (aeG [1, 1, 1, 1]) DE bA DE
noncomputable def EF : OV := aeJ (ls [Y, u, x2, x3] 91) H
theorem Bz : ar 39614081257132168796771975155 DE := rf
theorem aeI : ar 39614081257132168796771975090 aeH := rc Bz aB Bz
theorem aeK : ar 39614081257132168796771975154 aeJ := rc Bz aB Bz
theorem Hh : EF Y x2 x3 H =
 ld [.n, .f 7] Y H fun b =>
 (ai .other .add b (vi 1)).bind fun c =>
 st 1 [.n, .f 7] Y c H fun a =>
 ld [.n, .f 7] Y a fun d =>
 ld [.n, .f 0] Y a fun e =>
 ld [.n, .f 7] e a fun g =>
 ld [.n, .f 2] g a fun i =>
 (ai .other .geq d i).bind fun j =>
 some (Value.tuple #[(vb false), j], a) :=
 (by kernel_rfl)
theorem ta : agK Y x2 x3 x6 H =
 (oc .not x6).bind fun a =>
 (gV a true Y).bind fun b =>
 gk a true  [.n, .f 8] b H fun c =>
 (gB a true (ai .other .lss c (vi 0))).bind fun d =>
 (bd a d (vb false)).bind fun e =>
 av e
 (ld [.n, .f 7] Y H fun g =>
 st 1 [.n, .f 8] Y g H fun i =>
 EF Y x2 x3 i)
 (EF Y x2 x3 H) :=
 (pt rfl 0 aeK (by kernel_rfl))
noncomputable def rTs : OV := bf PP GG FF (aeG []) (ls [Y] 94) H DE bA DE
theorem agL {r : Value × AH} (h : (
 ad [.n, .f 0] Y fun d =>
 (au d H).bind fun j =>
 ad [.n, .f 7] j fun e =>
 (au e H).bind fun k =>
 ad [.n, .f 1] Y fun g =>
 (au g H).bind fun l =>
 ld [.n, .f 0] Y H fun m =>
 ld [.n, .f 7] m H fun o =>
 ld [.n, .f 2, .f 1] Y H fun p =>
 (FF eN [o, p] H).bind fun a =>
 b7 (au d a.2) (au d H) <|
 b7 (au e a.2) (au e H) <|
 b7 (au g a.2) (au g H) <|
 ad [.n, .f 7] Y fun i =>
 (au i a.2).bind fun q =>
 b7 (au i H) (au i a.2) <|
 (FF j8 [k, l, a.1, q] a.2).bind fun b =>
 (ag b.1 0).bind fun s =>
 (ag b.1 1).bind fun w =>
 (ag b.1 2).bind fun c =>
 (gV c true s).bind fun y =>
 (gV c true Y).bind fun z =>
 gk c true  [.n, .f 2, .f 1] z b.2 fun A =>
 (gB c true (ai .other .eql y A)).bind fun B =>
 (bd c B (vb false)).bind fun C =>
 av C
 (st 1 [.n, .f 9] Y (vb true) b.2 fun D =>
 st 1 [.n, .f 10] Y w D fun E =>
 some (Value.tuple #[(vb true), (vb false)], E))
 (agK Y (vb false) (vb false) c b.2)) = some r) : FF Ej [Y] H = some r :=
 fo (t := rTs Y H) Tryz.func94 (by kernel_rfl) (Eq.trans (pt rfl 2 aeI (by kernel_rfl)) h)
theorem wN {r : Value × AH} (h : (
 ad [.n, .f 0] Y fun a =>
 (au a H).bind fun d =>
 (FF cA [(vi 8), x2, (vi 0)] H).bind fun b =>
 b7 (au a b.2) (au a H) <|
 (FF gM [d, Z, b.1, (vw 0), (vw 1)] b.2).bind fun c =>
 some (c.1, c.2)) = some r) : FF gY [Y, Z, x2] H = some r :=
 fo Tryz.func95 (by kernel_rfl) h
theorem tl {r : Value × AH} (h : (
 ad [.n, .f 0] Y fun a =>
 (au a H).bind fun c =>
 (FF cA [(vi 8), x2, (vi 0)] H).bind fun b =>
 b7 (au a b.2) (au a H) <|
 (FF eA [c, Z, b.1, (vw 0)] b.2).bind fun d =>
 some (Value.tuple #[], d.2)) = some r) : FF eb [Y, Z, x2] H = some r :=
 fo Tryz.func96 (by kernel_rfl) h
theorem yE {r : Value × AH} (h : (
 aV [(vi 0), (vi 0), (vw 0)] H fun c b =>
 (ai .other .lss x2 (vi 0)).bind fun a =>
 (gV a false x2).bind fun l =>
 (gV a false Y).bind fun m =>
 gk a false  [.n, .f 10] m b fun o =>
 (G3 (yv a) false (jd o some) (some undef)).bind fun p =>
 (gB a false (ai .other .geq l p)).bind fun q =>
 (bd a (vb true) q).bind fun s =>
 av s
 (ic [(0, 1), (1, 1), (2, 1)] [(vi 0), (vi 0), (vw 0)] [] fun t =>
 (cG 3 c t b).bind fun j =>
 (aA 3 c j).bind fun w => some (w, j))
 (ad [.n, .f 5] Y fun d =>
 (au d b).bind fun y =>
 (FF cA [(vi 13), x2, (vi 0)] b).bind fun e =>
 b7 (au d e.2) (au d b) <|
 (FF cu [y, Z, (vi 5), e.1] e.2).bind fun g =>
 ld [.n, .f 10] Y g.2 fun z =>
 ldN 3 [.i 3 x2] z g.2 fun A =>
 (cG 3 c A g.2).bind fun k =>
 (aA 3 c k).bind fun B => some (B, k))) = some r) : FF lj [Y, Z, x2] H = some r :=
 fo Tryz.func97 (by kernel_rfl) h
theorem yP {r : Value × AH} (h : (
 (FF b8 [Y] H).bind fun a =>
 ad [.n, .f 1] Y fun c =>
 (au c a.2).bind fun g =>
 b7 (au c H) (au c a.2) <|
 (FF lk [a.1, g] a.2).bind fun d =>
 st 1 [.n, .f 11] Y d.1 d.2 fun e =>
 ld [.n, .f 11] Y e fun i =>
 (FF gL [i] e).bind fun b =>
 (ag b.1 0).bind fun k =>
 (ag b.1 1).bind fun j =>
 (ag b.1 2).bind fun l =>
 some (j, b.2)) = some r) : FF eE [Y] H = some r :=
 fo Tryz.func98 (by kernel_rfl) h
theorem yN {r : Value × AH} (h : (
 ld [.n, .f 0] Y H fun a =>
 ld [.n, .f 11] a H fun b =>
 ld [.n, .f 10] Y H fun c =>
 ld [.i 1 c] b H fun d =>
 some (d, H)) = some r) : FF b8 [Y] H = some r :=
 fo Tryz.func99 (by kernel_rfl) h
theorem yH {r : Value × AH} (h : (
 ad [.n, .f 0] Y fun a =>
 (au a H).bind fun d =>
 ld [.n, .f 1] Y H fun e =>
 (FF cA [(vi 12), e, (vi 0)] H).bind fun b =>
 b7 (au a b.2) (au a H) <|
 (FF d9 [d, Z, b.1] b.2).bind fun c =>
 some (c.1, c.2)) = some r) : FF iJ [Y, Z] H = some r :=
 fo Tryz.func100 (by kernel_rfl) h
theorem J1 {r : Value × AH} (h : (
 (ai .other .rem Y (vw 2305843009213693952)).bind fun b =>
 (ai .other .quo Y (vw 2305843009213693952)).bind fun c =>
 (cg (some .i64) c).bind fun a =>
 (ai .other .gtr a (vi 2)).bind fun d =>
 av d
 (some (Value.tuple #[(vw 0), (vi (-1)), (vb false)], H))
 (some (Value.tuple #[b, a, (vb true)], H))) = some r) : FF gL [Y] H = some r :=
 fo Tryz.func101 (by kernel_rfl) h
theorem yG {r : Value × AH} (h : (
 (FF gL [Z] H).bind fun b =>
 (ag b.1 0).bind fun c =>
 (ag b.1 1).bind fun o =>
 (ag b.1 2).bind fun p =>
 (ai .other .geq c x2).bind fun a =>
 (gV a true c).bind fun d =>
 (gV a true x2).bind fun e =>
 (gB a true (ai .other .sub d e)).bind fun g =>
 (gV a true Y).bind fun i =>
 gk a true  [.n, .f 2] i b.2 fun j =>
 (gB a true (cg (some .u64) j)).bind fun k =>
 (gB a true (ai .other .geq g k)).bind fun l =>
 (bd a l (vb false)).bind fun m =>
 some (m, b.2)) = some r) : FF iI [Y, Z, x2] H = some r :=
 fo Tryz.func102 (by kernel_rfl) h
noncomputable def Is (p : List Nat) : Code := Code.sub (bM Tryz.f103) p
noncomputable def qH : KK := dP PP (Tryz.f103).results.toList
noncomputable def So : KK := CQ (Is [1]) qH bA qH
noncomputable def nC : OV := So (ls [Y, Z] 48) H
noncomputable def Sq : KK := CQ (Is [1, 1]) qH bA qH
noncomputable def gz : OV := Sq (ls [Y, Z] 48) H
noncomputable def aj0 : KX := BX 0 qH bA
theorem qI : ar 1125899906842623 qH := rf
theorem We : ar 1125899906842620 So := rc qI aB qI
theorem Wf : ar 1125899906842620 Sq := rc qI aB qI
theorem Wg : ∀ i, ar 1125899906842623 (aj0 i) := rb qI aB
theorem rV : gz Y Z H =
 (FF b8 [Y] H).bind fun a =>
 ad [.n, .f 1] Y fun c =>
 (au c a.2).bind fun g =>
 b7 (au c H) (au c a.2) <|
 ad [.n, .f 11] Y fun d =>
 (au d a.2).bind fun i =>
 b7 (au d H) (au d a.2) <|
 (FF iL [a.1, g, i, (vi 0)] a.2).bind fun b =>
 av b.1
 ((FF bJ [Y, Z, (vi 0)] b.2).bind fun e =>
 ld [.n, .f 6] Y e.2 fun j =>
 (ai .other .add j (vi 1)).bind fun k =>
 st 1 [.n, .f 6] Y k e.2 fun l =>
 some (Value.tuple #[], l))
 (ld [.n, .f 6] Y b.2 fun m =>
 (ai .other .eql m (vi 9)).bind fun o =>
 av o
 (st 1 [.n, .f 6] Y (vi 7) b.2 fun p =>
 some (Value.tuple #[], p))
 (st 1 [.n, .f 6] Y (vi 20) b.2 fun q =>
 some (Value.tuple #[], q))) :=
 (bt rfl (Is [1, 1, 4]) 0 Wg (by kernel_rfl))
theorem rS : nC Y Z H =
 ld [.n, .f 6] Y H fun a =>
 (ai .other .eql a (vi 13)).bind fun b =>
 av b
 (st 1 [.n, .f 13] Y (vw 1) H fun c =>
 gz Y Z c)
 (gz Y Z H) :=
 (pt rfl 0 Wf (by kernel_rfl))
noncomputable def Ex : OV := bf PP GG FF (Is []) (ls [Y, Z] 48) H qH bA qH
theorem wP {r : Value × AH} (h : (
 st 1 [.n, .f 13] Y (vw 0) H fun a =>
 nC Y Z a) = some r) : FF j9 [Y, Z] H = some r :=
 fo (t := Ex Y Z H) Tryz.func103 (by kernel_rfl) (Eq.trans (pt rfl 0 We (by kernel_rfl)) h)
theorem AT {r : Value × AH} (h : (
 aV (Value.cells x3).toList H fun g a =>
 ad [.n, .f 0] Y fun b =>
 (au b a).bind fun m =>
 ad [.n, .f 1] Y fun j =>
 (au j a).bind fun o =>
 (FF eD [Y, x2] a).bind fun d =>
 b7 (au b d.2) (au b a) <|
 b7 (au j d.2) (au j a) <|
 (FF cA [(vi 16), o, d.1] d.2).bind fun k =>
 b7 (au b k.2) (au b a) <|
 (FF cu [m, Z, (vi 6), k.1] k.2).bind fun e =>
 ad [.n, .f 3] Y fun l =>
 (au l e.2).bind fun p =>
 (FF eD [Y, x2] e.2).bind fun c =>
 b7 (au l c.2) (au l e.2) <|
 (aA 3 g c.2).bind fun q =>
 b7 (aA 3 g e.2) (aA 3 g c.2) <|
 st 3 [.i 3 c.1] p q c.2 fun s =>
 some (Value.tuple #[], s)) = some r) : FF mI [Y, Z, x2, x3] H = some r :=
 fo Tryz.func104 (by kernel_rfl) h
theorem wQ {r : Value × AH} (h : (
 ld [.n, .f 11] Y H fun b =>
 (FF gL [b] H).bind fun a =>
 (ag a.1 0).bind fun c =>
 (ag a.1 1).bind fun d =>
 (ag a.1 2).bind fun e =>
 some (c, a.2)) = some r) : FF fE [Y] H = some r :=
 fo Tryz.func105 (by kernel_rfl) h
theorem yI {r : Value × AH} (h : (
 ad [.n, .f 0] Y fun a =>
 (au a H).bind fun e =>
 ad [.n, .f 1] Y fun c =>
 (au c H).bind fun g =>
 (FF eD [Y, x2] H).bind fun b =>
 b7 (au a b.2) (au a H) <|
 b7 (au c b.2) (au c H) <|
 (FF cA [(vi 15), g, b.1] b.2).bind fun d =>
 b7 (au a d.2) (au a H) <|
 (ai .other .add x2 (vw 1)).bind fun i =>
 (FF eA [e, Z, d.1, i] d.2).bind fun j =>
 some (Value.tuple #[], j.2)) = some r) : FF iK [Y, Z, x2] H = some r :=
 fo Tryz.func106 (by kernel_rfl) h
theorem uB {r : Value × AH} (h : (
 ad [.n, .f 0] Y fun a =>
 (au a H).bind fun c =>
 (FF cA [(vi 3), (vi 0), (vi 0)] H).bind fun b =>
 b7 (au a b.2) (au a H) <|
 (FF ku [c, Z, b.1, (vw 4294967296)] b.2).bind fun d =>
 some (Value.tuple #[], d.2)) = some r) : FF ju [Y, Z] H = some r :=
 fo Tryz.func107 (by kernel_rfl) h
noncomputable def Cz (p : List Nat) : Code := Code.sub (bM Tryz.f108) p
noncomputable def qJ : KK := dP PP (Tryz.f108).results.toList
noncomputable def Ss : KK := CQ (Cz [1]) qJ bA qJ
noncomputable def agI : OV := Ss (ls [Y, Z, u, u, x4] 100) H
noncomputable def It : KK := CQ (Cz [1, 1]) qJ bA qJ
noncomputable def Sr : KK := en RX It
noncomputable def pQ : OV := It (ls [u, u, u, u, x4] 100) H
noncomputable def Su : KK := CQ (Cz [1, 0, 1]) Sr bA qJ
noncomputable def agJ : OV := Su (ls [Y, Z, u, u, x4, u, u, u, x8] 96) H
noncomputable def aj1 : KX := BX 0 Sr bA
theorem qK : ar RX qJ := rf
theorem Wh : ar 40564819207303340847894502572012 Ss := rc qK aB qK
theorem xJ : ar RX It := rc qK aB qK
theorem Wi : ar 40564819207303340847894502571756 Su := rc (cd xJ) aB qK
theorem Wj : ∀ i, ar RX (aj1 i) := rb (cd xJ) aB
theorem kg : pQ x4 H =
 some ((vb false), H) :=
 (by kernel_rfl)
theorem s9 : agJ Y Z x4 x8 H =
 (ai .other .eql x8 (vi 15)).bind fun q =>
 av q
 (ld [.n, .f 0] Y H fun s =>
 ld [.n, .f 1] Y H fun t =>
 (FF eC [s, t] H).bind fun o =>
 st 1 [.n, .f 13] Y o.1 o.2 fun w =>
 st 1 [.n, .f 6] Y (vi 16) w fun d =>
 ld [.n, .f 13] Y d fun y =>
 (ai .other .rem y (vw 2)).bind fun z =>
 (ai .other .eql z (vw 1)).bind fun A =>
 av A
 (st 1 [.n, .f 6] Y (vi 7) d fun B =>
 pQ x4 B)
 (pQ x4 d))
 ((ai .other .eql x8 (vi 16)).bind fun C =>
 av C
 (st 1 [.n, .f 6] Y (vi 17) H fun D =>
 (FF eE [Y] D).bind fun e =>
 (ai .other .eql e.1 (vi 2)).bind fun E =>
 av E
 (st 1 [.n, .f 6] Y (vi 3) e.2 fun G =>
 pQ x4 G)
 (pQ x4 e.2))
 ((ai .other .eql x8 (vi 17)).bind fun I =>
 av I
 ((FF b8 [Y] H).bind fun c =>
 ad [.n, .f 1] Y fun g =>
 (au g c.2).bind fun J =>
 b7 (au g H) (au g c.2) <|
 (FF iJ [c.1, J] c.2).bind fun p =>
 st 1 [.n, .f 12] Y p.1 p.2 fun K =>
 st 1 [.n, .f 16] Y Z K fun L =>
 st 1 [.n, .f 6] Y (vi 18) L fun i =>
 (FF b8 [Y] i).bind fun a =>
 ad [.n, .f 11] Y fun j =>
 (au j a.2).bind fun M =>
 b7 (au j i) (au j a.2) <|
 ad [.n, .f 12] Y fun k =>
 (au k a.2).bind fun N =>
 b7 (au k i) (au k a.2) <|
 (FF iI [a.1, M, N] a.2).bind fun l =>
 (oc .not l.1).bind fun O =>
 av O
 (st 1 [.n, .f 6] Y (vi 7) l.2 fun P =>
 pQ x4 P)
 (pQ x4 l.2))
 ((ai .other .eql x8 (vi 18)).bind fun Q =>
 av Q
 (ld [.n, .f 0] Y H fun R =>
 ld [.n, .f 1] Y H fun S =>
 (FF eC [R, S] H).bind fun b =>
 ad [.n, .f 13] Y fun m =>
 (au m b.2).bind fun T =>
 b7 (au m H) (au m b.2) <|
 (ai .other .eql b.1 T).bind fun U =>
 av U
 (ld [.n, .f 16] Y b.2 fun V =>
 (FF bJ [Y, V, (vi 9)] b.2).bind fun W =>
 some ((vb true), W.2))
 (st 1 [.n, .f 6] Y (vi 7) b.2 fun X =>
 pQ x4 X))
 (pQ x4 H)))) :=
 (bt rfl (Cz [1, 0, 1, 4]) 0 Wj (by kernel_rfl))
theorem s8 : agI Y Z x4 H =
 ld [.n, .f 6] Y H fun a =>
 agJ Y Z x4 a H :=
 (pt rfl 0 xJ (pt rfl 0 Wi (by kernel_rfl)))
noncomputable def rTf : OV := bf PP GG FF (Cz []) (ls [Y, Z] 103) H qJ bA qJ
theorem Kg {r : Value × AH} (h : (
 agI Y Z (vb false) H) = some r) : FF anJ [Y, Z] H = some r :=
 fo (t := rTf Y Z H) Tryz.func108 (by kernel_rfl) (Eq.trans (pt rfl 0 Wh (by kernel_rfl)) h)
noncomputable def CA (p : List Nat) : Code := Code.sub (bM Tryz.f109) p
noncomputable def qL : KK := dP PP (Tryz.f109).results.toList
noncomputable def Sx : KK := CQ (CA [1, 1]) qL bA qL
noncomputable def agM : OV := Sx (ls [Y, Z, u, u, x4, x5] 113) H
noncomputable def Iu : KK := CQ (CA [1, 1, 1]) qL bA qL
noncomputable def Sw : KK := en RW Iu
noncomputable def rY : OV := Iu (ls [u, u, u, u, x4] 114) H
noncomputable def Sy : KK := CQ (CA [1, 1, 0, 1]) Sw bA qL
noncomputable def agN : OV := Sy (ls [Y, Z, u, u, x4, x5, u, u, u, u, u, u, u, x13] 105) H
noncomputable def aj2 : KX := BX 0 Sw bA
theorem qM : ar RW qL := rf
theorem Wl : ar 664613997892457936451903530140172236 Sx := rc qM aB qM
theorem xK : ar RW Iu := rc qM aB qM
theorem Wm : ar 664613997892457936451903530140164044 Sy := rc (cd xK) aB qM
theorem Wn : ∀ i, ar RW (aj2 i) := rb (cd xK) aB
theorem ma : rY x4 H =
 some ((vb false), H) :=
 (by kernel_rfl)
theorem md : agN Y Z x4 x5 x13 H =
 (ai .other .eql x13 (vi 20)).bind fun i =>
 av i
 (ld [.n, .f 6] x5 H fun j =>
 ld [.n, .f 1] Y H fun k =>
 (FF iH [j, k] H).bind fun l =>
 st 1 [.n, .f 6] Y (vi 7) l.2 fun m =>
 rY x4 m)
 ((ai .other .eql x13 (vi 21)).bind fun o =>
 av o
 ((FF b8 [Y] H).bind fun a =>
 ad [.n, .f 1] Y fun b =>
 (au b a.2).bind fun p =>
 b7 (au b H) (au b a.2) <|
 (FF fE [Y] a.2).bind fun d =>
 b7 (au b d.2) (au b a.2) <|
 (FF iK [a.1, p, d.1] d.2).bind fun q =>
 st 1 [.n, .f 6] Y (vi 22) q.2 fun s =>
 rY x4 s)
 ((ai .other .eql x13 (vi 22)).bind fun t =>
 av t
 (ld [.n, .f 6] x5 H fun w =>
 ld [.n, .f 1] Y H fun y =>
 (FF lh [w, y, Z] H).bind fun g =>
 st 1 [.n, .f 15] Y g.1 g.2 fun z =>
 st 1 [.n, .f 6] Y (vi 23) z fun A =>
 rY x4 A)
 ((ai .other .eql x13 (vi 23)).bind fun B =>
 av B
 (ld [.n, .f 6] x5 H fun C =>
 ld [.n, .f 1] Y H fun D =>
 ld [.n, .f 10] Y H fun E =>
 ld [.n, .f 15] Y H fun G =>
 (FF j6 [C, D, E, G] H).bind fun I =>
 st 1 [.n, .f 6] Y (vi 24) I.2 fun J =>
 rY x4 J)
 ((ai .other .eql x13 (vi 24)).bind fun K =>
 av K
 (st 1 [.n, .f 6] Y (vi 22) H fun c =>
 ld [.n, .f 6] x5 c fun L =>
 ld [.n, .f 1] Y c fun M =>
 ld [.n, .f 15] Y c fun N =>
 ld [.n, .f 10] Y c fun O =>
 (FF j7 [L, M, Z, N, O] c).bind fun e =>
 av e.1
 (st 1 [.n, .f 6] Y (vi 25) e.2 fun P =>
 rY x4 P)
 (rY x4 e.2))
 ((ai .other .eql x13 (vi 25)).bind fun Q =>
 av Q
 (ld [.n, .f 6] x5 H fun R =>
 ld [.n, .f 1] Y H fun S =>
 (FF iH [R, S] H).bind fun T =>
 some ((vb true), T.2))
 (rY x4 H)))))) :=
 (bt rfl (CA [1, 1, 0, 1, 4]) 0 Wn (by kernel_rfl))
theorem l8 : agM Y Z x4 x5 H =
 ld [.n, .f 6] Y H fun a =>
 agN Y Z x4 x5 a H :=
 (pt rfl 0 xK (pt rfl 0 Wm (by kernel_rfl)))
noncomputable def rTw : OV := bf PP GG FF (CA []) (ls [Y, Z] 117) H qL bA qL
theorem yQ {r : Value × AH} (h : (
 ld [.n, .f 0] Y H fun a =>
 agM Y Z (vb false) a H) = some r) : FF afI [Y, Z] H = some r :=
 fo (t := rTw Y Z H) Tryz.func109 (by kernel_rfl) (Eq.trans (pt rfl 1 Wl (by kernel_rfl)) h)
end
end Go.Proofs.YtflbeghglllknaaGreatDoor.Gst
