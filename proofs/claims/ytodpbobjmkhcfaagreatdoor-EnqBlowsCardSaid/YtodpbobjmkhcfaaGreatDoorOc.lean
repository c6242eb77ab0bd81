/- Several texts in one. -/
import Derived.Test.YtodpbobjmkhcfaaGreatDoorOb
namespace Go.Proofs.YtodpbobjmkhcfaaGreatDoor.Gst
open Go Go.RowKit
set_option linter.unusedSimpArgs false
set_option linter.unusedVariables false
set_option maxHeartbeats 1000000
set_option maxRecDepth 100000
set_option synthInstance.maxSize 2000
set_option synthInstance.maxHeartbeats 400000
def sl (e : Nat) (v : Value) (n : Nat) (cs : List Value) : SP := ex fun ob : Option Nat => match ob with
 | none => pu (v = .slice none 0 0 ∧ n = 0 ∧ cs = [])
 | some b => pu (v = vs b n e ∧ cs.length = n * e) * blk b (.cells false cs)
theorem RX {R : SP} {H : AH} (e : Nat) (h : ae R H) : ae (sl e (.slice none 0 0) 0 [] * R) H := ae.ex.2 ⟨none, ae.pu.2 ⟨⟨rfl, rfl, rfl⟩, h⟩⟩
theorem uQ {R : SP} {H : AH} {e b n : Nat} {cs : List Value} (hl : cs.length = n * e) (h : ae (blk b (.cells false cs) * R) H) : ae (sl e (vs b n e) n cs * R) H :=
 ae.ex.2 ⟨some b, by rw [ar]; exact ae.pu.2 ⟨⟨rfl, hl⟩, h⟩⟩
theorem qO {R : SP} {H : AH} {e n : Nat} {v : Value} {cs : List Value} (h : ae (sl e v n cs * R) H) : (v = .slice none 0 0 ∧ n = 0 ∧ cs = [] ∧ ae R H) ∨ ∃ b, v = vs b n e ∧ cs.length = n * e ∧ ae (blk b (.cells false cs) * R) H := by
 obtain ⟨ob, h⟩ := ae.ex.1 h
 cases ob with
 | none =>
  obtain ⟨⟨h1, h2, h3⟩, h4⟩ := ae.pu.1 h
  exact .inl ⟨h1, h2, h3, h4⟩
 | some b =>
  simp only [ar] at h
  obtain ⟨⟨h1, h2⟩, h4⟩ := ae.pu.1 h
  exact .inr ⟨b, h1, h2, h4⟩
class Sl (P : SP) (e : Nat) (v : Value) (n : outParam Nat) (cs : outParam (List Value)) (R : outParam SP) : Prop where
 eq : P = sl e v n cs * R
instance (priority := high) Sl.refl (e n : Nat) (v : Value) (cs : List Value) : Sl (sl e v n cs) e v n cs emp := ⟨(cX _).symm⟩
instance Sl.left (P Q R : SP) (e n : Nat) (v : Value) (cs : List Value) [h : Sl P e v n cs R] : Sl (P * Q) e v n cs (R * Q) := ⟨by rw [h.eq, ar]⟩
instance Sl.right (P Q R : SP) (e n : Nat) (v : Value) (cs : List Value) [h : Sl Q e v n cs R] : Sl (P * Q) e v n cs (P * R) := ⟨by rw [h.eq, bA]⟩
theorem Sl.fr {P R : SP} (e : Nat) {n : Nat} (v : Value) {cs : List Value} [h : Sl P e v n cs R] {H : AH} (k : ae P H) : ae (sl e v n cs * R) H := by rw [← h.eq]; exact k
section
variable {P P' R : SP} {H : AH} {b o n m e k : Nat} {ro : Bool} {cs xcs : List Value} {v s x : Value} {Q : Value → AH → Prop}
theorem ahW {bytes : Nat} {kk : Value × AH → OV} (h : ae P H) [f : Sl P e s n cs R] [i : Hs R b (.cells ro xcs)] (hl : xcs.length = k * e) (he : 0 < e) (hk0 : 0 < k) (hc : xcs.all Value.oneCell' = true)
 (hr : (n + k) * bytes ≤ cp ∧ n + k ≤ cp) (hk : ∀ a c H', ae (sl e (.slice a (n + k) c) (n + k) (cs ++ xcs) * R) H' → wp (kk (.slice a (n + k) c, H')) Q) : wp ((dq e bytes s (vs b k e) H).bind kk) Q := by
 have hf := Sl.fr e s h
 have hg := i.get hf.right
 have hrow : j0 e (vs b k e) H = some (k, xcs) := by
  simp only [j0, dr, hg, Option.bind_some]
  rw [if_neg (by omega), if_pos (by omega)]
  simp [← hl]
 unfold dq
 rw [hrow]
 simp only [Option.bind_some]
 rw [if_pos ⟨hc, he⟩]
 rcases qO hf with ⟨rfl, rfl, rfl, h'⟩ | ⟨b', rfl, hcl, h'⟩
 ·simp only [and_self, if_true]
  rw [if_neg (by omega), if_pos (by simpa using hr)]
  simp only [Option.bind_some, Nat.zero_add, List.nil_append] at hk ⊢
  exact hk _ _ _ (uQ hl (h'.push _))
 ·simp only
  have hgb := h'.left.get
  rw [if_neg (by omega), if_neg (by omega), hgb]
  simp only
  rw [if_pos ⟨trivial, by omega, hr.1, hr.2⟩]
  simp only [Option.bind_some, List.drop_zero]
  rw [← hcl, List.take_length]
  have h2 := h'.dead.push (.cells false (cs ++ xcs))
  rw [AH.size_set] at h2
  exact hk _ _ _ (uQ (by rw [List.length_append, hcl, hl, Nat.add_mul]) h2)
end
abbrev cn := Int × Int × Int
def dw (l : cn) : Value := .agg #[vi l.1, vi l.2.1, vi l.2.2]
instance s0.loc (l : cn) : s0 (dw l) [vi l.1, vi l.2.1, vi l.2.2] := ⟨rfl⟩
structure Ev where
 who : Int
 kind : Int
 loc : cn
deriving DecidableEq
def Ev.cells (e : Ev) : List Value := [vi e.who, vi e.kind, vi e.loc.1, vi e.loc.2.1, vi e.loc.2.2]
def nk (E : List Ev) : List Value := E.flatMap Ev.cells
theorem Fa (E : List Ev) (x : Ev) : nk (E ++ [x]) = nk E ++ x.cells := by simp [nk]
section
variable {α : Type} {enc : α → List Value} {e : Nat}
theorem jz (he : ∀ x, (enc x).length = e) (l : List α) : (l.flatMap enc).length = l.length * e := by
 induction l with
 | nil => simp
 | cons x l ih => rw [List.flatMap_cons, List.length_append, he, ih, List.length_cons, Nat.add_mul]; omega
theorem Uj (he : ∀ x, (enc x).length = e) : ∀ (l : List α) (i : Nat), (l.flatMap enc).drop (i * e) = (l.drop i).flatMap enc := by
 intro l
 induction l with
 | nil => intro i; simp
 | cons x l ih =>
  intro i
  cases i with
  | zero => simp
  | succ i =>
   rw [List.flatMap_cons, List.drop_append, he, show (i + 1) * e - e = i * e from by rw [Nat.add_mul]; omega, ih, List.drop_eq_nil_of_le (by rw [he, Nat.add_mul]; omega)]
   rfl
theorem nI (l : List α) (i : Nat) (hi : i < l.length) : l.flatMap enc = (l.take i).flatMap enc ++ (enc l[i] ++ (l.drop (i + 1)).flatMap enc) := by
 rw [← List.flatMap_cons, ← List.flatMap_append, List.getElem_cons_drop, List.take_append_drop]
theorem Ja (l : List α) (i : Nat) (hi : i < l.length) (y : α) : (l.set i y).flatMap enc = (l.take i).flatMap enc ++ (enc y ++ (l.drop (i + 1)).flatMap enc) := by
 rw [← List.flatMap_cons, ← List.flatMap_append, List.set_eq_take_append_cons_drop, if_pos hi]
theorem pW (he : ∀ x, (enc x).length = e) (l : List α) (i : Nat) (hi : i < l.length) : ((l.take i).flatMap enc).length = i * e := by
 rw [jz he, List.length_take, Nat.min_eq_left (by omega)]
theorem Gp (he : ∀ x, (enc x).length = e) (l : List α) (i : Nat) (hi : i < l.length) : ((l.flatMap enc).drop (i * e)).take e = enc l[i] := by
 rw [nI l i hi, List.drop_append, pW he l i hi, Nat.sub_self, List.drop_zero, List.drop_eq_nil_of_le (by rw [pW he l i hi]; omega), List.nil_append, List.take_append, he, Nat.sub_self, List.take_zero, List.append_nil,
  List.take_of_length_le (by rw [he]; omega)]
theorem A6 (he : ∀ x, (enc x).length = e) (l : List α) (i : Nat) (hi : i < l.length) (f : Nat) (hf : f < e) : (l.flatMap enc)[i * e + f]? = (enc l[i])[f]? := by
 rw [nI l i hi, List.getElem?_append_right (by rw [pW he l i hi]; omega), pW he l i hi, List.getElem?_append_left (by rw [he]; omega)]
 congr 1
 omega
theorem Ox (A X B xs : List Value) (f : Nat) (h : f + xs.length ≤ X.length) : splice (A ++ (X ++ B)) (A.length + f) xs = A ++ (splice X f xs ++ B) := by
 unfold splice
 rw [List.take_append, List.take_append, List.drop_append, List.drop_append, List.take_of_length_le (by omega), List.drop_eq_nil_of_le (by omega)]
 have e1 : A.length + f - A.length = f := by omega
 have e2 : A.length + f + xs.length - A.length = f + xs.length := by omega
 have e3 : f + xs.length - X.length = 0 := by omega
 have e4 : f - X.length = 0 := by omega
 rw [e1, e2, e3, e4]
 simp
theorem Jb (he : ∀ x, (enc x).length = e) (l : List α) (i : Nat) (hi : i < l.length) (f : Nat) (xs : List Value) (hf : f + xs.length ≤ e) (y : α) (hy : splice (enc l[i]) f xs = enc y) :
 splice (l.flatMap enc) (i * e + f) xs = (l.set i y).flatMap enc := by
 rw [nI l i hi, Ja l i hi, ← pW he l i hi, Ox _ _ _ _ _ (by rw [he]; exact hf), hy]
end
def ts {α : Type} (e : Nat) (enc : α → List Value) (v : Value) (l : List α) : SP := sl e v l.length (l.flatMap enc)
class Enc {α : Type} (enc : α → List Value) (e : outParam Nat) : Prop where
 len : ∀ x, (enc x).length = e
 one : ∀ x, (enc x).all Value.oneCell' = true
 pos : 0 < e
class Ts (P : SP) (s : Value) (α : outParam Type) (e : outParam Nat) (enc : outParam (α → List Value)) (l : outParam (List α)) (R : outParam SP) : Prop where
 eq : P = ts e enc s l * R
instance (priority := high) Ts.refl {α : Type} (e : Nat) (enc : α → List Value) (s : Value) (l : List α) : Ts (ts e enc s l) s α e enc l emp := ⟨(cX _).symm⟩
instance Ts.left {α : Type} (P Q R : SP) (e : Nat) (enc : α → List Value) (s : Value) (l : List α) [h : Ts P s α e enc l R] : Ts (P * Q) s α e enc l (R * Q) := ⟨by rw [h.eq, ar]⟩
instance Ts.right {α : Type} (P Q R : SP) (e : Nat) (enc : α → List Value) (s : Value) (l : List α) [h : Ts Q s α e enc l R] : Ts (P * Q) s α e enc l (P * R) := ⟨by rw [h.eq, bA]⟩
class Tu (P : SP) (s : Value) {α : Type} (l' : List α) (P' : outParam SP) : Prop where
 up : ∃ e enc, ∃ (l : List α), ∃ R, P = ts e enc s l * R ∧ P' = ts e enc s l' * R
theorem cY {α : Type} {R : SP} {H : AH} (e : Nat) (enc : α → List Value) (h : ae R H) : ae (ts e enc (.slice none 0 0) [] * R) H := RX e h
section
variable {α : Type} {P P' R : SP} {H : AH} {b o e : Nat} {ro : Bool} {enc : α → List Value} {l : List α} {xcs : List Value} {s : Value} {Q : Value → AH → Prop}
theorem lR (h : ae P H) [f : Ts P s α e enc l R] : (s = .slice none 0 0 ∧ l = [] ∧ ae R H) ∨ ∃ b, s = vs b l.length e ∧ ae (blk b (.cells false (l.flatMap enc)) * R) H := by
 have h' : ae (ts e enc s l * R) H := by rw [← f.eq]; exact h
 rcases qO h' with ⟨h1, h2, _, h4⟩ | ⟨b, h1, _, h3⟩
 ·exact .inl ⟨h1, List.eq_nil_of_length_eq_zero h2, h4⟩
 ·exact .inr ⟨b, h1, h3⟩
theorem qP {b : Nat} [E : Enc enc e] (h : ae (blk b (.cells false (l.flatMap enc)) * R) H) : ae (ts e enc (vs b l.length e) l * R) H := uQ (jz E.len l) h
theorem n0 {k : Value → OV} (h : ae P H) [f : Ts P s α e enc l R] (hk : wp (k (vi l.length)) Q) : wp (dG s k) Q := by
 rcases lR (f := f) h with ⟨rfl, rfl, _⟩ | ⟨b, rfl, _⟩
 ·exact hk
 ·exact hk
theorem fW {bytes : Nat} {kk : Value × AH → OV} (x : α) (h : ae P H) [f : Ts P s α e enc l R] [i : Hs R b (.cells ro xcs)] [E : Enc enc e] (hx : xcs = enc x)
 (hr : (l.length + 1) * bytes ≤ cp) (hb : 0 < bytes) (hk : ∀ a c H', ae (ts e enc (.slice a (l.length + 1) c) (l ++ [x]) * R) H' → wp (kk (.slice a (l.length + 1) c, H')) Q) : wp ((dq e bytes s (vs b 1 e) H).bind kk) Q := by
 have h' : ae (sl e s l.length (l.flatMap enc) * R) H := by
  have : P = ts e enc s l * R := f.eq
  rw [this] at h
  exact h
 subst hx
 refine ahW (k := 1) (ro := ro) (xcs := enc x) h' (by rw [E.len]; omega) E.pos (by omega) (E.one x) ⟨hr, ?_⟩ fun a c H' h2 => hk a c H' ?_
 ·have : l.length + 1 ≤ (l.length + 1) * bytes := Nat.le_mul_of_pos_right _ hb
  omega
 ·have e1 : (l ++ [x]).length = l.length + 1 := by simp
  have e2 : (l ++ [x]).flatMap enc = l.flatMap enc ++ enc x := by simp
  unfold ts
  rw [e1, e2]
  rw [jg] at h2
  exact h2
theorem OL {k : Value → OV} {i : Nat} {kk : IntKind} (h : ae P H) [f : Ts P s α e enc l R] [E : Enc enc e] (hi : i < l.length) (hk : wp (k (.agg (enc l[i]).toArray)) Q) : wp (ldN e [.i e (.int kk (i : Int))] s H k) Q := by
 rcases lR (f := f) h with ⟨_, rfl, _⟩ | ⟨b, rfl, h'⟩
 ·simp at hi
 ·unfold ldN
  rw [Pd hi bZ]
  have hlen := jz E.len l
  have hm : (i + 1) * e ≤ l.length * e := Nat.mul_le_mul_right _ (by omega)
  rw [Nat.add_mul] at hm
  have := M7 (b := b) (cs := l.flatMap enc) (ro := false) (n := e) (o := 0 + i * e) h' (by omega)
  rw [this, Option.bind_some, Nat.zero_add, Gp E.len l i hi]
  exact hk
theorem adL {k : Value → OV} {i : Nat} {kk : IntKind} {v : Value} (h : ae P H) [f : Ts P s α 1 enc l R] [E : Enc enc 1] (hi : i < l.length) (hv : enc l[i] = [v]) (hk : wp (k v) Q) : wp (ld [.i 1 (.int kk (i : Int))] s H k) Q := by
 rcases lR (f := f) h with ⟨_, rfl, _⟩ | ⟨b, rfl, h'⟩
 ·simp at hi
 ·unfold ld
  rw [Pd hi bZ]
  have := M6 (b := b) (o := 0 + i * 1) (v := v) h' (by
   have := A6 E.len l i hi 0 (by omega)
   rw [Nat.add_zero] at this
   rw [Nat.zero_add, this, hv]; rfl)
  rw [this]
  exact hk
theorem EO {n : Nat} {p : List Stp} {k : AH → OV} {i g : Nat} {kk : IntKind} {v : Value} {xs : List Value} (y : α) (h : ae P H) [f : Ts P s α e enc l R] [E : Enc enc e] (hi : i < l.length) (hp : p = [.i e (.int kk (i : Int))] ∧ g = 0 ∨ p = [.i e (.int kk (i : Int)), .f g])
 [c : s0 v xs] (hn : xs.length = n) (hg : g + n ≤ e) (hx : xs.all Value.oneCell' = true) (hy : splice (enc l[i]) g xs = enc y) (hk : ∀ H', ae (ts e enc s (l.set i y) * R) H' → wp (k H') Q) : wp (st n p s v H k) Q := by
 rcases lR (f := f) h with ⟨_, rfl, _⟩ | ⟨b, rfl, h'⟩
 ·simp at hi
 ·have hend : OX p (vs b l.length e) b (i * e + g) := by
   rcases hp with ⟨rfl, rfl⟩ | rfl
   ·intro R' k'
    rw [Pd hi bZ]
    simp
   ·intro R' k'
    rw [Pd hi (bW bZ)]
    simp
  unfold st
  have hc := c.eq
  subst hc
  rw [hend]
  have hlen := jz E.len l
  have hm : (i + 1) * e ≤ l.length * e := Nat.mul_le_mul_right _ (by omega)
  rw [Nat.add_mul] at hm
  rw [acZ h' (by simpa using hn) (by omega) hx, Option.bind_some, Jb E.len l i hi g _ (by rw [hn]; exact hg) y hy]
  refine hk _ ?_
  have h2 := h'.set (.cells false ((l.set i y).flatMap enc))
  have h3 := qP (e := e) (enc := enc) (l := l.set i y) h2
  rw [List.length_set] at h3
  exact h3
end
instance : Enc Ev.cells 5 := ⟨fun _ => rfl, fun _ => rfl, by omega⟩
def da (n : Int) : List Value := [vi n]
instance : Enc da 1 := ⟨fun _ => rfl, fun _ => rfl, by omega⟩
def aj7 (H : AH) (s : Value) (e n : Nat) (cs : List Value) : Prop :=
 cs.length = n * e ∧ ((∃ a c, s = .slice a 0 c ∧ n = 0 ∧ (a = none → c = 0) ∧ (∀ x, a = some x → ∃ b o, x = ⟨b, o, none⟩)) ∨ ∃ b o ro row, s = .slice (some ⟨b, o, none⟩) n e ∧ H.get b = some (.cells ro row) ∧ o + n * e ≤ row.length ∧ (row.drop o).take (n * e) = cs)
class Rd {α : outParam Type} (P : SP) (s : Value) (e : outParam Nat) (enc : outParam (α → List Value)) (l : outParam (List α)) : Prop where
 rd : ∀ {H : AH}, ae P H → aj7 H s e l.length (l.flatMap enc)
instance Rd.left {α : Type} (P Q : SP) (s : Value) (e : Nat) (enc : α → List Value) (l : List α) [r : Rd P s e enc l] : Rd (P * Q) s e enc l := ⟨fun h => r.rd h.left⟩
instance Rd.right {α : Type} (P Q : SP) (s : Value) (e : Nat) (enc : α → List Value) (l : List α) [r : Rd Q s e enc l] : Rd (P * Q) s e enc l := ⟨fun h => r.rd h.right⟩
instance Rd.own {α : Type} (s : Value) (e : Nat) (enc : α → List Value) (l : List α) : Rd (ts e enc s l) s e enc l := ⟨by
 intro H h
 have h' : ae (ts e enc s l * emp) H := by rw [cX]; exact h
 rcases qO h' with ⟨rfl, h2, h3, _⟩ | ⟨b, rfl, hc, h4⟩
 ·exact ⟨by rw [h3, h2]; simp, .inl ⟨none, 0, rfl, h2, fun _ => rfl, fun x hx => by cases hx⟩⟩
 ·exact ⟨hc, .inr ⟨b, 0, false, _, rfl, h4.left.get, by omega, by rw [List.drop_zero, ← hc, List.take_length]⟩⟩⟩
section
variable {α : Type} {P R : SP} {H : AH} {e n : Nat} {enc : α → List Value} {l m : List α} {s : Value} {Q : Value → AH → Prop}
theorem dH {k : Value → OV} (h : ae P H) [r : Rd P s e enc l] (hk : wp (k (vi l.length)) Q) : wp (dG s k) Q := by
 obtain ⟨_, ⟨a, c, rfl, hn, _⟩ | ⟨b, o, ro, row, rfl, _⟩⟩ := r.rd h
 ·rw [hn] at hk; exact hk
 ·exact hk
theorem ajH {R' : Type} {k : Value → Option R'} (h : ae P H) [r : Rd P s e enc l] : dG s k = k (vi l.length) := by
 obtain ⟨_, ⟨a, c, rfl, hn, _⟩ | ⟨b, o, ro, row, rfl, _⟩⟩ := r.rd h
 ·rw [hn]; rfl
 ·rfl
theorem gu {k : Value → OV} (h : ae P H) [r : Rd P s e enc l] (hk : wp (k (vi l.length)) Q) : wp ((dG s some).bind k) Q := by
 rw [ajH h]; exact hk
theorem B1 (h : ae P H) [r : Rd P s e enc l] [E : Enc enc e] {i : Nat} (hi : i < l.length) : ∃ b o ro row, s = .slice (some ⟨b, o, none⟩) l.length e ∧ H.get b = some (.cells ro row) ∧ o + l.length * e ≤ row.length ∧ (row.drop o).take (l.length * e) = l.flatMap enc := by
 obtain ⟨_, ⟨a, c, rfl, hn, _⟩ | ⟨b, o, ro, row, h1, h2⟩⟩ := r.rd h
 ·omega
 ·exact ⟨b, o, ro, row, h1, h2⟩
theorem Rx [E : Enc enc e] {row : List Value} {o i g : Nat} (h : (row.drop o).take (l.length * e) = l.flatMap enc) (hi : i < l.length) (hg : g < e) : row[o + i * e + g]? = (enc l[i])[g]? := by
 rw [← A6 E.len l i hi g hg, ← h]
 have hm : (i + 1) * e ≤ l.length * e := Nat.mul_le_mul_right _ (by omega)
 rw [Nat.add_mul] at hm
 rw [List.getElem?_take, if_pos (by omega), List.getElem?_drop]
 congr 1; omega
theorem abX {i g : Nat} {kk : IntKind} {v : Value} (h : ae P H) [r : Rd P s e enc l] [E : Enc enc e] (hi : i < l.length) (hg : g < e) (hv : (enc l[i])[g]? = some v) {R' : Type} {p : List Stp} (hp : p = [.i e (.int kk (i : Int)), .f g] ∨ p = [.i e (.int kk (i : Int))] ∧ g = 0) {k : Value → Option R'} :
 ld p s H k = k v := by
 obtain ⟨b, o, ro, row, rfl, h2, h3, h4⟩ := B1 (s := s) (enc := enc) (l := l) h hi
 have hend : ad p (.slice (some ⟨b, o, none⟩) l.length e) = fun k' : Value → Option R' => k' (oM b (o + i * e + g)) := by
  rcases hp with rfl | ⟨rfl, rfl⟩
  ·funext k'; rw [So hi, akC]; rfl
  ·funext k'; rw [So hi]; rfl
 unfold ld
 rw [hend]
 show (aq (oM b (o + i * e + g)) H).bind k = k v
 have : aq (oM b (o + i * e + g)) H = some v := by
  simp only [aq, sr, dr, Option.bind_some, h2]
  rw [Rx h4 hi hg, hv]
 rw [this]; rfl
theorem Cy {k : Value → OV} {i g : Nat} {kk : IntKind} {v : Value} (h : ae P H) [r : Rd P s e enc l] [E : Enc enc e] (hi : i < l.length) (hg : g < e) (hv : (enc l[i])[g]? = some v) (hk : wp (k v) Q) : wp (ld [.i e (.int kk (i : Int)), .f g] s H k) Q := by
 rw [abX h hi hg hv (.inl rfl)]; exact hk
theorem iI {k : Value → OV} {i : Nat} {kk : IntKind} {v : Value} {enc : α → List Value} (h : ae P H) [r : Rd P s 1 enc l] [E : Enc enc 1] (hi : i < l.length) (hv : enc l[i] = [v]) (hk : wp (k v) Q) : wp (ld [.i 1 (.int kk (i : Int))] s H k) Q := by
 rw [abX (g := 0) (v := v) h hi (by omega) (by rw [hv]; rfl) (.inr ⟨rfl, rfl⟩)]; exact hk
theorem sT {k : Value → OV} {i : Nat} {kk : IntKind} (h : ae P H) [r : Rd P s e enc l] [E : Enc enc e] (hi : i < l.length) (hk : wp (k (.agg (enc l[i]).toArray)) Q) : wp (ldN e [.i e (.int kk (i : Int))] s H k) Q := by
 obtain ⟨b, o, ro, row, rfl, h2, h3, h4⟩ := B1 (s := s) (enc := enc) (l := l) h hi
 unfold ldN
 rw [So hi]
 have hm : (i + 1) * e ≤ l.length * e := Nat.mul_le_mul_right _ (by omega)
 rw [Nat.add_mul] at hm
 have : aD e (oM b (o + i * e)) H = some (.agg (enc l[i]).toArray) := by
  simp only [aD, sr, dr, Option.bind_some, h2]
  rw [if_pos (by omega)]
  congr 3
  rw [← Gp E.len l i hi, ← h4, List.drop_take, List.drop_drop, List.take_take, Nat.min_eq_left (by omega)]
 show wp ((aD e (oM b (o + i * e)) H).bind k) Q
 rw [this]; exact hk
theorem abY {lo hi : Option Value} {a b : Nat} (h : ae P H) [r : Rd P s e enc l] [E : Enc enc e] (hlo : (lo = none ∧ a = 0) ∨ ∃ k, lo = some (.int k (a : Int))) (hhi : (hi = none ∧ b = l.length) ∨ ∃ k, hi = some (.int k (b : Int))) (h1 : a ≤ b) (h2 : b ≤ l.length) (h0 : 0 < l.length) :
 ∃ s', d5 e s lo hi = some s' ∧ Rd P s' e enc ((l.take b).drop a) := by
 have hlen : ((l.take b).drop a).length = b - a := by rw [List.length_drop, List.length_take, Nat.min_eq_left h2]
 have hfl : (((l.take b).drop a).flatMap enc).length = (b - a) * e := by rw [jz E.len, hlen]
 have hsub : ((l.take b).drop a).flatMap enc = ((l.flatMap enc).drop (a * e)).take ((b - a) * e) := by
  have e2 : (l.drop a).take (b - a) = (l.take b).drop a := by rw [List.drop_take]
  rw [Uj E.len, ← e2]
  have gen : ∀ (m : List α) (k : Nat), k ≤ m.length → (m.take k).flatMap enc = (m.flatMap enc).take (k * e) := by
   intro m
   induction m with
   | nil => intro k hk; simp
   | cons x m ih =>
    intro k hk
    cases k with
    | zero => simp
    | succ k =>
     rw [List.take_succ_cons, List.flatMap_cons, List.flatMap_cons, ih k (by simpa using hk), List.take_append, E.len, List.take_of_length_le (l := enc x) (by rw [E.len, Nat.add_mul]; omega)]
     congr 2
     rw [Nat.add_mul, Nat.one_mul, Nat.add_sub_cancel]
  exact gen _ _ (by rw [List.length_drop]; omega)
 obtain ⟨h0, ⟨a0, c, rfl, hn, hc0, ha0⟩ | ⟨b0, o, ro, row, rfl, _⟩⟩ := r.rd h
 ·omega
 ·refine ⟨.slice (some ⟨b0, o + a * e, none⟩) (b - a) e, ?_, ⟨fun {H'} h' => ?_⟩⟩
  ·have hpos := E.pos
   have hab : (0 : Int) ≤ a ∧ (a : Int) ≤ b ∧ (b : Int) ≤ l.length := by omega
   rcases hlo with ⟨rfl, rfl⟩ | ⟨k1, rfl⟩ <;> rcases hhi with ⟨rfl, rfl⟩ | ⟨k2, rfl⟩ <;> simp only [d5, lI, Option.bind_some]
   ·rw [if_pos (by omega)]; simp [hpos]
   ·rw [if_pos (by omega)]; simp [hpos]
   ·rw [if_pos (by omega)]; simp [hpos]
   ·rw [if_pos (by omega)]; simp [hpos]
  ·obtain ⟨h0', hr⟩ := r.rd h'
   refine ⟨by rw [hfl, hlen], .inr ?_⟩
   rcases hr with ⟨a1, c1, e1, hn, _, _⟩ | ⟨b1, o1, ro1, row1, e1, g1, g2, g3⟩
   ·omega
   ·obtain ⟨rfl, rfl⟩ : b1 = b0 ∧ o1 = o := by
     have := e1; simp at this; exact ⟨this.1.symm, this.2.symm⟩
    have hm : b * e ≤ l.length * e := Nat.mul_le_mul_right _ h2
    have hm2 : a * e ≤ b * e := Nat.mul_le_mul_right _ h1
    have hm3 : (b - a) * e = b * e - a * e := Nat.sub_mul ..
    rw [hlen]
    refine ⟨b1, o1 + a * e, ro1, row1, rfl, g1, by omega, ?_⟩
    rw [hsub, ← g3, List.drop_take, List.drop_drop, List.take_take, Nat.min_eq_left (by omega)]
end
def QL (H0 : AH) : SP := fun h => h = fun i => H0.get i
theorem DL (H0 : AH) : ae (QL H0) H0 := ⟨_, rfl, fun i o h => h⟩
class Fx (P : SP) (H0 : AH) : Prop where
 fx : ∀ {H : AH}, ae P H → ∀ b o, H0.get b = some o → H.get b = some o
instance Fx.refl (H0 : AH) : Fx (QL H0) H0 := ⟨by
 rintro H ⟨x, hx, hg⟩ b o hb
 have hx : x = _ := hx
 exact hg b o (by rw [hx]; exact hb)⟩
instance Fx.left (P Q : SP) (H0 : AH) [f : Fx P H0] : Fx (P * Q) H0 := ⟨fun h => f.fx h.left⟩
instance Fx.right (P Q : SP) (H0 : AH) [f : Fx Q H0] : Fx (P * Q) H0 := ⟨fun h => f.fx h.right⟩
theorem iN.flat {α : Type} {R : α → List Value → Prop} {enc : α → List Value} (hf : ∀ x c, R x c → c = enc x) {l : List α} {row : List Value} (h : iN R l row) : row = l.flatMap enc := by
 induction h with
 | nil => rfl
 | cons h1 _ ih => rw [hf _ _ h1, ih]; rfl
theorem Rd.arg {H0 : AH} {t : Ty} {enc : t.I → List Value} {l : List t.I} {v : Value} [E : Enc enc t.w] (hf : ∀ x c, Abs H0 t x c → c = enc x) (h : Abs H0 (.slice t) l [v]) : Rd (QL H0) v t.w enc l := ⟨fun {H} hH => by
 refine ⟨jz E.len l, ?_⟩
 rcases h with ⟨rfl, e⟩ | ⟨rfl, b, e⟩ | ⟨b, row, h1, e, h3, _⟩
 ·obtain rfl : v = .slice none 0 0 := by simpa using e
  exact .inl ⟨none, 0, rfl, rfl, fun _ => rfl, fun x hx => by cases hx⟩
 ·obtain rfl : v = .slice (some ⟨b, 0, none⟩) 0 0 := by simpa using e
  exact .inl ⟨_, 0, rfl, rfl, (fun h => by cases h), fun x hx => ⟨b, 0, (Option.some.inj hx).symm⟩⟩
 ·obtain rfl : v = .slice (some ⟨b, 0, none⟩) l.length t.w := by simpa using e
  have hrow := h3.flat hf
  refine .inr ⟨b, 0, true, row, rfl, (Fx.refl H0).fx hH b _ h1, ?_, ?_⟩
  ·rw [hrow, jz E.len]; omega
  ·rw [List.drop_zero, hrow, ← jz E.len l, List.take_length]⟩
section
variable {α : Type} {P R : SP} {H : AH} {e : Nat} {enc : α → List Value} {l m : List α} {s x : Value} {Q : Value → AH → Prop}
theorem wC {bytes : Nat} {kk : Value × AH → OV} (h : ae P H) [f : Ts P s α e enc l R] [rd : Rd R x e enc m] [E : Enc enc e] (hr : (l.length + m.length) * bytes ≤ cp) (hb : 0 < bytes)
 (hk : ∀ v H', ae (ts e enc v (l ++ m) * R) H' → wp (kk (v, H')) Q) : wp ((dq e bytes s x H).bind kk) Q := by
 have h' : ae (ts e enc s l * R) H := by rw [← f.eq]; exact h
 obtain ⟨hc, ⟨a, c, rfl, hn, _, hax⟩ | ⟨b, o, ro, row, rfl, hg, hle, hrow⟩⟩ := rd.rd h'.right
 ·have hm : m = [] := List.eq_nil_of_length_eq_zero hn
  subst hm
  have hpr : j0 e (.slice a 0 c) H = some (0, []) := by
   cases a with
   | none => simp [j0]
   | some y => obtain ⟨b, o, rfl⟩ := hax y rfl; simp [j0]
  unfold dq
  rw [hpr]
  simp only [Option.bind_some]
  rw [if_pos ⟨rfl, E.pos⟩]
  rcases qO h' with ⟨rfl, h2, h3, h4⟩ | ⟨b', rfl, h2, h4⟩
  ·simp only [and_self, if_true, Option.bind_some]
   refine hk _ _ ?_
   rw [List.append_nil]; exact h'
  ·simp only [if_true, Option.bind_some]
   refine hk _ _ ?_
   rw [List.append_nil]; exact h'
 ·by_cases hm0 : m.length = 0
  ·have hm : m = [] := List.eq_nil_of_length_eq_zero hm0
   subst hm
   unfold dq
   have hpr : j0 e (.slice (some ⟨b, o, none⟩) ([] : List α).length e) H = some (0, []) := by simp [j0]
   rw [hpr]
   simp only [Option.bind_some]
   rw [if_pos ⟨rfl, E.pos⟩]
   rcases qO h' with ⟨rfl, h2, h3, h4⟩ | ⟨b', rfl, h2, h4⟩
   ·simp only [and_self, if_true, Option.bind_some]
    refine hk _ _ ?_
    rw [List.append_nil]; exact h'
   ·simp only [if_true, Option.bind_some]
    refine hk _ _ ?_
    rw [List.append_nil]; exact h'
  ·have hpr : j0 e (.slice (some ⟨b, o, none⟩) m.length e) H = some (m.length, m.flatMap enc) := by
    simp only [j0, dr, hg, Option.bind_some]
    rw [if_neg hm0, if_pos hle, hrow]
   have hall : (m.flatMap enc).all Value.oneCell' = true := by
    rw [List.all_eq_true]
    intro y hy
    obtain ⟨z, _, hz⟩ := List.mem_flatMap.1 hy
    exact List.all_eq_true.1 (E.one z) y hz
   have hroom : l.length + m.length ≤ (l.length + m.length) * bytes := Nat.le_mul_of_pos_right _ hb
   unfold dq
   rw [hpr]
   simp only [Option.bind_some]
   rw [if_pos ⟨hall, E.pos⟩]
   have e1 : (l ++ m).length = l.length + m.length := by simp
   have e2 : (l ++ m).flatMap enc = l.flatMap enc ++ m.flatMap enc := by simp
   have hmul : (l.length + m.length) * e = l.length * e + m.length * e := Nat.add_mul ..
   rcases qO h' with ⟨rfl, h2, h3, h4⟩ | ⟨b', rfl, h2, h4⟩
   ·simp only [and_self, if_true]
    rw [h2, Nat.zero_add] at hr hroom
    rw [if_neg hm0, if_pos ⟨hr, by omega⟩]
    simp only [Option.bind_some]
    refine hk _ _ ?_
    unfold ts
    rw [e1, e2, h3, h2, List.nil_append, Nat.zero_add]
    exact uQ hc (h4.push _)
   ·have hgb := h4.left.get
    have hpos := E.pos
    simp only
    rw [if_neg hm0, if_neg (by omega), hgb]
    simp only
    rw [if_pos ⟨trivial, by omega, hr, by omega⟩]
    simp only [Option.bind_some, List.drop_zero]
    rw [← h2, List.take_length]
    have h5 := h4.dead.push (.cells false (l.flatMap enc ++ m.flatMap enc))
    rw [AH.size_set] at h5
    refine hk _ _ ?_
    unfold ts
    rw [e1, e2]
    exact uQ (by rw [List.length_append, h2, hc]; omega) h5
theorem B2 {z : α} {zero : List Value} (hz : enc z = zero) : ∀ n : Nat, (List.replicate n zero).flatten = (List.replicate n z).flatMap enc := by
 intro n
 induction n with
 | zero => rfl
 | succ n ih => rw [List.replicate_succ, List.replicate_succ, List.flatten_cons, List.flatMap_cons, ih, hz]
theorem HG {zero : List Value} {bytes n : Nat} {kk : Value × AH → OV} (z : α) (h : ae P H) [E : Enc enc e] (hz : enc z = zero) (hr : n * bytes ≤ cp) (hb : 0 < bytes) (hk : ∀ b H', ae (ts e enc (vs b n e) (List.replicate n z) * P) H' → wp (kk (vs b n e, H')) Q) :
 wp ((kQ zero e bytes (vi n) (vi n) H).bind kk) Q := by
 have hroom : n ≤ n * bytes := Nat.le_mul_of_pos_right _ hb
 have hz2 : zero.length = e := by rw [← hz, E.len]
 unfold kQ
 simp only [Int.toNat_natCast]
 rw [if_pos ⟨by omega, trivial, hr, by omega, E.pos, hz2⟩]
 simp only [Option.bind_some]
 refine hk _ _ ?_
 have h2 := h.push (.cells false (List.replicate n zero).flatten)
 rw [B2 hz] at h2 ⊢
 have h3 := qP (e := e) (enc := enc) (l := List.replicate n z) h2
 rw [List.length_replicate] at h3
 exact h3
end
class KeyE {κ : Type} [DecidableEq κ] (cl : outParam KCls) (ek : κ → Value) : Prop where
 eq : ∀ a b, jA cl (ek a) (ek b) = some (decide (a = b))
 ok : ∀ a, gU cl (ek a) = true
inductive Ents {κ : Type} (ek : κ → Value) : List (κ × Value) → List MapEntry → Prop
 | nil : Ents ek [] []
 | cons {p : κ × Value} {l : List (κ × Value)} {e : MapEntry} {es : List MapEntry} (h1 : e.key = ek p.1) (h2 : e.val = p.2) (k : Ents ek l es) : Ents ek (p :: l) (e :: es)
section
variable {κ : Type} [DecidableEq κ] {ek : κ → Value} {cl : KCls}
def GE : List (κ × Value) → κ → Option Value
 | [], _ => none
 | p :: al, k => if k = p.1 then some p.2 else GE al k
def GF : List (κ × Value) → κ → Value → List (κ × Value)
 | [], k, v => [(k, v)]
 | p :: al, k, v => if k = p.1 then (k, v) :: al else p :: GF al k v
theorem Z9 (k : κ) (v : Value) (x : κ) : ∀ al, GE (GF al k v) x = if x = k then some v else GE al x := by
 intro al
 induction al with
 | nil => simp only [GF, GE]
 | cons p al ih =>
  simp only [GF]
  by_cases hk : k = p.1
  ·rw [if_pos hk]
   simp only [GE]
   by_cases hx : x = k
   ·simp [hx]
   ·have : ¬ x = p.1 := by rw [← hk]; exact hx
    simp [hx, this]
  ·rw [if_neg hk]
   simp only [GE, ih]
   by_cases hx : x = p.1
   ·have : ¬ x = k := by rw [hx]; exact fun h => hk h.symm
    simp [hx]
    intro h; exact absurd h.symm hk
   ·simp [hx]
theorem ai3 [K : KeyE cl ek] {al : List (κ × Value)} {es : List MapEntry} (h : Ents ek al es) (k : κ) : ∀ i, ∃ r, aY cl (ek k) es i = some r ∧ r.map (·.2) = GE al k := by
 induction h with
 | nil => intro i; exact ⟨none, rfl, rfl⟩
 | @cons p l e es h1 h2 _ ih =>
  intro i
  simp only [aY, h1, K.eq, Option.bind_some, GE]
  by_cases hp : k = p.1
  ·rw [if_pos (by simp [hp]), if_pos hp]
   exact ⟨_, rfl, by simp [h2]⟩
  ·rw [if_neg (by simp [hp]), if_neg hp]
   exact ih (i + 1)
theorem akN [K : KeyE cl ek] {al : List (κ × Value)} {es : List MapEntry} (h : Ents ek al es) (k : κ) (v : Value) : ∀ i, match aY cl (ek k) es i with
 | some (some (j, _)) => i ≤ j ∧ Ents ek (GF al k v) (es.modify (j - i) fun e => { e with key := ek k, val := v })
 | some none => ∀ born, Ents ek (GF al k v) (es ++ [{ key := ek k, val := v, born := born }])
 | none => False := by
 induction h with
 | nil => intro i born; exact .cons rfl rfl .nil
 | @cons p l e es h1 h2 hh ih =>
  intro i
  simp only [aY, h1, K.eq, Option.bind_some, GF]
  by_cases hp : k = p.1
  ·rw [if_pos (show decide (k = p.1) = true by simp [hp]), if_pos hp]
   refine ⟨Nat.le_refl _, ?_⟩
   simp only [Nat.sub_self]
   exact .cons rfl rfl hh
  ·rw [if_neg (show ¬ decide (k = p.1) = true by simp [hp]), if_neg hp]
   have hi := ih (i + 1)
   cases hf : aY cl (ek k) es (i + 1) with
   | none => rw [hf] at hi; exact hi
   | some r =>
    rw [hf] at hi
    cases r with
    | none => intro born; exact .cons h1 h2 (hi born)
    | some r =>
     obtain ⟨j, v'⟩ := r
     simp only at hi ⊢
     refine ⟨by omega, ?_⟩
     rw [show j - i = (j - (i + 1)) + 1 from by omega]
     exact .cons h1 h2 hi.2
def Wi (ek : κ → Value) (b : Nat) (f : κ → Option Value) : SP := ex fun g : List (κ × Value) × List MapEntry × Nat => pu (Ents ek g.1 g.2.1 ∧ ∀ k, GE g.1 k = f k) * blk b (.map g.2.1 g.2.2)
class Mp (P : SP) (b : Nat) {κ : Type} [DecidableEq κ] (ek : κ → Value) (f : outParam (κ → Option Value)) (R : outParam SP) : Prop where
 eq : P = Wi ek b f * R
instance (priority := high) Mp.refl {κ : Type} [DecidableEq κ] (b : Nat) (ek : κ → Value) (f : κ → Option Value) : Mp (Wi ek b f) b ek f emp := ⟨(cX _).symm⟩
instance Mp.left {κ : Type} [DecidableEq κ] (P Q R : SP) (b : Nat) (ek : κ → Value) (f : κ → Option Value) [h : Mp P b ek f R] : Mp (P * Q) b ek f (R * Q) := ⟨by rw [h.eq, ar]⟩
instance Mp.right {κ : Type} [DecidableEq κ] (P Q R : SP) (b : Nat) (ek : κ → Value) (f : κ → Option Value) [h : Mp Q b ek f R] : Mp (P * Q) b ek f (P * R) := ⟨by rw [h.eq, bA]⟩
theorem Q2 {R : SP} {H : AH} {b : Nat} (ek : κ → Value) (h : ae (blk b (.map [] 0) * R) H) : ae (Wi ek b (fun _ => none) * R) H :=
 ae.ex.2 ⟨([], [], 0), by rw [ar]; exact ae.pu.2 ⟨⟨.nil, fun _ => rfl⟩, h⟩⟩
theorem R8 {P R : SP} {H : AH} {b : Nat} {f : κ → Option Value} {zero : Value} {kk : Value → OV} {Q : Value → AH → Prop} [K : KeyE cl ek] (k : κ) (h : ae P H) [m : Mp P b ek f R]
 (hk : wp (kk ((f k).getD zero)) Q) : wp ((ci cl zero (.map (some b)) (ek k) false H).bind kk) Q := by
 have h' : ae (Wi ek b f * R) H := by rw [← m.eq]; exact h
 obtain ⟨⟨al, es, c⟩, h'⟩ := ae.ex.1 h'
 rw [ar, ae.pu] at h'
 obtain ⟨⟨he, hf⟩, h'⟩ := h'
 dsimp only at he hf h'
 obtain ⟨r, h1, h2⟩ := ai3 he k 0
 refine aa ?_ hk
 unfold ci
 rw [if_pos (K.ok k)]
 simp only [jc, h'.left.get, Option.bind_some, h1, Option.map_some]
 rw [← hf k, ← h2]
 cases r <;> rfl
theorem adK {P R : SP} {H : AH} {b : Nat} {f : κ → Option Value} {kk : AH → OV} {Q : Value → AH → Prop} [K : KeyE cl ek] (k : κ) (v : Value) (h : ae P H) [m : Mp P b ek f R]
 (hk : ∀ H', ae (Wi ek b (fun x => if x = k then some v else f x) * R) H' → wp (kk H') Q) : wp ((dD cl (.map (some b)) (ek k) v H).bind kk) Q := by
 have h' : ae (Wi ek b f * R) H := by rw [← m.eq]; exact h
 obtain ⟨⟨al, es, c⟩, h'⟩ := ae.ex.1 h'
 rw [ar, ae.pu] at h'
 obtain ⟨⟨he, hf⟩, h'⟩ := h'
 dsimp only at he hf h'
 have hu := akN he k v 0
 unfold dD
 rw [if_pos (K.ok k)]
 simp only [h'.left.get]
 have fin : ∀ {es' : List MapEntry} {c' : Nat}, Ents ek (GF al k v) es' → ae (Wi ek b (fun x => if x = k then some v else f x) * R) (H.set b (.map es' c')) := fun {es'} {c'} he' =>
  ae.ex.2 ⟨(GF al k v, es', c'), by
   rw [ar]
   exact ae.pu.2 ⟨⟨he', fun x => by rw [Z9, hf]⟩, h'.set _⟩⟩
 cases hf' : aY cl (ek k) es 0 with
 | none => rw [hf'] at hu; exact absurd hu id
 | some r =>
  rw [hf'] at hu
  cases r with
  | none =>
   simp only [Option.map_some, Option.bind_some]
   exact hk _ (fin (hu c))
  | some r =>
   obtain ⟨j, v'⟩ := r
   simp only [Option.map_some, Option.bind_some]
   exact hk _ (fin hu.2)
end
section
variable {cl : TCls} {w : Nat}
theorem ahN : ai cl .shr (vu w) (vw 61) = some (vu (w / 2305843009213693952)) := by
 have := u3 (cl := cl) (a := w) (k := .u64) (n := 61) (by omega)
 simpa using this
theorem ak1 : ai cl .shr (vu w) (vw 32) = some (vu (w / 4294967296)) := by
 have := u3 (cl := cl) (a := w) (k := .u64) (n := 32) (by omega)
 simpa using this
theorem O0 (k : Nat) (hw : w < 18446744073709551616) (hk : 2 ^ k - 1 < 18446744073709551616) : ai cl .and (vu w) (.int .u64 ((2 ^ k - 1 : Nat) : Int)) = some (vu (w % 2 ^ k)) := by
 have := aeF (cl := cl) hw hk
 rw [Nat.and_two_pow_sub_one_eq_mod] at this
 exact this
theorem akE (hw : w < 18446744073709551616) : ai cl .and (vu w) (vw 2305843009213693951) = some (vu (w % 2305843009213693952)) := by
 have := O0 (cl := cl) 61 hw (by omega)
 simpa using this
theorem akD (hw : w < 18446744073709551616) : ai cl .and (vu w) (vw 4294967295) = some (vu (w % 4294967296)) := by
 have := O0 (cl := cl) 32 hw (by omega)
 simpa using this
theorem Ry (n : Nat) (h : n ≠ 0) : ai cl .rem (vu w) (.int .u64 (n : Int)) = some (vu (w % n)) := iP h
theorem ahK (n : Nat) (h : n ≠ 0) (hw : w < 18446744073709551616) : ai cl .quo (vu w) (.int .u64 (n : Int)) = some (vu (w / n)) := Dk h hw
theorem ahG (n : Nat) : ai cl .mul (vu w) (.int .u64 (n : Int)) = some (vu (w * n % 18446744073709551616)) := Sx
theorem akR (h : w * 2305843009213693952 < 18446744073709551616) : ai cl .mul (vu w) (vw 2305843009213693952) = some (vu (w * 2305843009213693952)) := by
 have := ahG (cl := cl) (w := w) 2305843009213693952
 rw [Nat.mod_eq_of_lt h] at this
 simpa using this
theorem akQ : ai cl .mul (vu w) (vw 4294967296) = some (vu (w * 4294967296 % 18446744073709551616)) := by
 have := ahG (cl := cl) (w := w) 4294967296
 simpa using this
theorem akX : ai cl .rem (vu w) (vw 2305843009213693952) = some (vu (w % 2305843009213693952)) := by
 have := Ry (cl := cl) (w := w) 2305843009213693952 (by omega)
 simpa using this
theorem akV (hw : w < 18446744073709551616) : ai cl .quo (vu w) (vw 2305843009213693952) = some (vu (w / 2305843009213693952)) := by
 have := ahK (cl := cl) (w := w) 2305843009213693952 (by omega) hw
 simpa using this
theorem akW : ai cl .rem (vu w) (vw 4294967296) = some (vu (w % 4294967296)) := by
 have := Ry (cl := cl) (w := w) 4294967296 (by omega)
 simpa using this
theorem akU (hw : w < 18446744073709551616) : ai cl .quo (vu w) (vw 4294967296) = some (vu (w / 4294967296)) := by
 have := ahK (cl := cl) (w := w) 4294967296 (by omega) hw
 simpa using this
theorem gc {w : Nat} (hw : w < 9223372036854775808) : bJ (some .i64) (vu w) = some (vi (w : Int)) := by
 simp only [bJ]
 rw [ng (by omega) (by omega)]
theorem dk {n : Int} (h0 : 0 ≤ n) (h1 : n < 18446744073709551616) : bJ (some .u64) (vi n) = some (vu n.toNat) := by
 simp only [bJ]
 rw [ks h0 h1]
 show _ = some (Value.int .u64 ((n.toNat : Nat) : Int))
 rw [Int.toNat_of_nonneg h0]
end
theorem ahJ {cl : TCls} {a b : Nat} : ai cl .neq (vu a) (vu b) = some (vb (a != b)) := by
 rw [qg]
 congr 2
 rw [Bool.eq_iff_iff]
 simp
 omega
theorem agZ {cl : TCls} {a b : Nat} : ai cl .eql (vu a) (vu b) = some (vb (a == b)) := by
 rw [dJ]
 congr 2
 rw [Bool.eq_iff_iff]
 simp
 omega
theorem agX {cl : TCls} {a b : Nat} : ai cl .add (vu a) (vu b) = some (vu ((a + b) % 18446744073709551616)) := by
 simp only [ai, kY, if_true]
 rw [CA]
 simp
theorem WY (a b : cn) : ai (.flat 3) .eql (.agg #[vi a.1, vi a.2.1, vi a.2.2]) (.agg #[vi b.1, vi b.2.1, vi b.2.2]) = some (vb (a == b)) := by
 show (nP (.flat 3) (.agg #[vi a.1, vi a.2.1, vi a.2.2]) (.agg #[vi b.1, vi b.2.1, vi b.2.2])).map (fun b => Value.bool b) = _
 simp only [nP]
 rw [if_pos ⟨rfl, rfl⟩]
 simp only [bn, if_true, Option.map_some, Bool.and_true]
 rfl
theorem gR {cl : TCls} {a b : Int} (h0 : -9223372036854775808 ≤ a * b) (h1 : a * b < 9223372036854775808) : ai cl .mul (vi a) (vi b) = some (vi (a * b)) := by simp only [ai, kY, if_true, ng h0 h1]
section
variable {cl : TCls} {k : IntKind} {a b : Int}
theorem bI (h : a < b) : ai cl .lss (.int k a) (.int k b) = some (vb true) := by rw [qf, decide_eq_true h]
theorem bu (h : ¬ a < b) : ai cl .lss (.int k a) (.int k b) = some (vb false) := by rw [qf, decide_eq_false h]
theorem QX (h : a ≤ b) : ai cl .leq (.int k a) (.int k b) = some (vb true) := by rw [O1, decide_eq_true h]
theorem QW (h : ¬ a ≤ b) : ai cl .leq (.int k a) (.int k b) = some (vb false) := by rw [O1, decide_eq_false h]
theorem mJ (h : b < a) : ai cl .gtr (.int k a) (.int k b) = some (vb true) := by rw [EV, decide_eq_true h]
theorem gT (h : ¬ b < a) : ai cl .gtr (.int k a) (.int k b) = some (vb false) := by rw [EV, decide_eq_false h]
theorem wU (h : b ≤ a) : ai cl .geq (.int k a) (.int k b) = some (vb true) := by rw [yH, decide_eq_true h]
theorem ol (h : ¬ b ≤ a) : ai cl .geq (.int k a) (.int k b) = some (vb false) := by rw [yH, decide_eq_false h]
theorem bp (h : a = b) : ai cl .eql (.int k a) (.int k b) = some (vb true) := by rw [dJ, beq_iff_eq.2 h]
theorem aS (h : ¬ a = b) : ai cl .eql (.int k a) (.int k b) = some (vb false) := by rw [dJ, beq_eq_false_iff_ne.2 h]
theorem ahI (h : ¬ a = b) : ai cl .neq (.int k a) (.int k b) = some (vb true) := by rw [qg, bne_iff_ne.2 h]
theorem xh (h : a = b) : ai cl .neq (.int k a) (.int k b) = some (vb false) := by
 rw [qg]
 simp [h]
end
theorem CW {c : Bool} {e : Option Value} {v : Value} (h : e = some v) : gB (vb c) c e = some v := by
 cases c <;> (rw [h]; rfl)
theorem ahD {v : Value} : gV (vb true) true v = some v := rfl
theorem ahA {v : Value} : gV (vb false) false v = some v := rfl
theorem ahC {v : Value} : gV (vb true) false v = some undef := rfl
theorem ahB {v : Value} : gV (vb false) true v = some undef := rfl
theorem ag9 {e : Option Value} : gB (vb true) false e = some undef := rfl
theorem ag8 {e : Option Value} : gB (vb false) true e = some undef := rfl
section
variable {H : AH} {e : Option (Value × AH)} {k : Value × AH → OV} {Q : Value → AH → Prop} {x : Option Value} {kv : Value → OV}
theorem nZ (h : wp (e.bind k) Q) : wp ((gE (vb true) true H e).bind k) Q := h
theorem zn (h : wp (e.bind k) Q) : wp ((gE (vb false) false H e).bind k) Q := h
theorem R6 (h : wp (k (undef, H)) Q) : wp ((gE (vb true) false H e).bind k) Q := h
theorem R5 (h : wp (k (undef, H)) Q) : wp ((gE (vb false) true H e).bind k) Q := h
theorem KI (h : wp (x.bind kv) Q) : wp ((uY (yv (vb true)) true x (some undef)).bind kv) Q := h
theorem Cx (h : wp (x.bind kv) Q) : wp ((uY (yv (vb false)) false x (some undef)).bind kv) Q := h
theorem KH (h : wp (kv undef) Q) : wp ((uY (yv (vb true)) false x (some undef)).bind kv) Q := h
theorem KG (h : wp (kv undef) Q) : wp ((uY (yv (vb false)) true x (some undef)).bind kv) Q := h
end
theorem Jc (c : Bool) (e : Option Value) : gB (vb c) c e = e := by cases c <;> cases e <;> rfl
theorem Gr {R : Type} (c : Bool) (k : Value → Option R) : ∀ (p : List Stp) (x : Value), A7 (vb c) c p x k = ad p x k := by
 intro p
 induction p with
 | nil => intro x; rfl
 | cons s p ih => intro x; cases s <;> simp only [A7, ad, Jc, ih]
theorem QN {R : Type} (c : Bool) (k : Value → Option R) (hk : ∀ x, k x = k undef) : ∀ (p : List Stp) (x : Value), A7 (vb c) (!c) p x k = k undef := by
 intro p
 induction p with
 | nil => intro x; exact hk x
 | cons s p ih => intro x; cases c <;> cases s <;> exact ih undef
section
variable {H : AH} {p : List Stp} {x : Value} {k : Value → OV} {Q : Value → AH → Prop} {n : Nat}
theorem ZU {R : Type} (c : Bool) (k : Value → Option R) : fu (vb c) c p x H k = ld p x H k := by simp only [fu, ld, Gr, Jc]
theorem QO {R : Type} (c : Bool) (k : Value → Option R) : mI (vb c) c n p x H k = ldN n p x H k := by simp only [mI, ldN, Gr, Jc]
theorem QP {R : Type} (c : Bool) (k : Value → Option R) : fu (vb c) (!c) p x H k = k undef := by
 unfold fu
 rw [QN c _ (fun x => by cases c <;> rfl)]
 cases c <;> rfl
theorem Jd {R : Type} (c : Bool) (k : Value → Option R) : mI (vb c) (!c) n p x H k = k undef := by
 unfold mI
 rw [QN c _ (fun x => by cases c <;> rfl)]
 cases c <;> rfl
theorem adI (h : wp (ld p x H k) Q) : wp (fu (vb true) true p x H k) Q := by rw [ZU]; exact h
theorem adF (h : wp (ld p x H k) Q) : wp (fu (vb false) false p x H k) Q := by rw [ZU]; exact h
theorem adH (h : wp (k undef) Q) : wp (fu (vb true) false p x H k) Q := by rw [show (false : Bool) = !true from rfl, QP]; exact h
theorem adG (h : wp (k undef) Q) : wp (fu (vb false) true p x H k) Q := by rw [show fu (vb false) true p x H k = fu (vb false) (!false) p x H k from rfl, QP]; exact h
theorem V6 (h : wp (ldN n p x H k) Q) : wp (mI (vb true) true n p x H k) Q := by rw [QO]; exact h
theorem V3 (h : wp (ldN n p x H k) Q) : wp (mI (vb false) false n p x H k) Q := by rw [QO]; exact h
theorem V5 (h : wp (k undef) Q) : wp (mI (vb true) false n p x H k) Q := by rw [show mI (vb true) false n p x H k = mI (vb true) (!true) n p x H k from rfl, Jd]; exact h
theorem V4 (h : wp (k undef) Q) : wp (mI (vb false) true n p x H k) Q := by rw [show mI (vb false) true n p x H k = mI (vb false) (!false) n p x H k from rfl, Jd]; exact h
theorem gt {e : Option Value} (h : wp (e.bind k) Q) : wp ((gB (vb true) true e).bind k) Q := by rw [Jc]; exact h
theorem nY {e : Option Value} (h : wp (e.bind k) Q) : wp ((gB (vb false) false e).bind k) Q := by rw [Jc]; exact h
theorem adE {a b : OV} (h : wp a Q) : wp (ax (vb true) a b) Q := h
theorem Cv {a b : OV} (h : wp b Q) : wp (ax (vb false) a b) Q := h
end
theorem alJ {b : Bool} {v : Value} : gV undef b v = some undef := rfl
theorem alI {b : Bool} {e : Option Value} : gB undef b e = some undef := rfl
theorem akL {R : Type} (b : Bool) (k : Value → Option R) (hk : ∀ x, k x = k undef) : ∀ (p : List Stp) (x : Value), A7 undef b p x k = k undef := by
 intro p
 induction p with
 | nil => intro x; exact hk x
 | cons s p ih => intro x; cases s <;> exact ih undef
theorem akM {R : Type} {b : Bool} {p : List Stp} {x : Value} {H : AH} (k : Value → Option R) : fu undef b p x H k = k undef := by
 unfold fu
 rw [akL b _ (fun x => rfl)]
 rfl
theorem agF {b : Bool} {p : List Stp} {x : Value} {H : AH} {k : Value → OV} {Q : Value → AH → Prop} (h : wp (k undef) Q) : wp (fu undef b p x H k) Q := by rw [akM]; exact h
class Gd (x : OV) (y : outParam OV) : Prop where
 go : ∀ {Q : Value → AH → Prop}, wp y Q → wp x Q
theorem gg {x y : OV} {Q : Value → AH → Prop} [g : Gd x y] (h : wp y Q) : wp x Q := g.go h
section
variable {a b v : Value} {k : Value → OV} {H : AH} {e : Option (Value × AH)} {e1 : Option Value} {ke : Value × AH → OV} {p : List Stp} {x : Value} {n : Nat} {c : Bool} {o1 o2 : OV}
instance : Gd ((aQ (vb true) a b).bind k) (k a) := ⟨aa (BI _ _)⟩
instance : Gd ((aQ (vb false) a b).bind k) (k b) := ⟨aa (GQ _ _)⟩
instance : Gd ((gV (vb true) true v).bind k) (k v) := ⟨aa ahD⟩
instance : Gd ((gV (vb false) false v).bind k) (k v) := ⟨aa ahA⟩
instance : Gd ((gV (vb true) false v).bind k) (k undef) := ⟨aa ahC⟩
instance : Gd ((gV (vb false) true v).bind k) (k undef) := ⟨aa ahB⟩
instance : Gd ((gB (vb true) false e1).bind k) (k undef) := ⟨aa ag9⟩
instance : Gd ((gB (vb false) true e1).bind k) (k undef) := ⟨aa ag8⟩
instance : Gd ((gE (vb true) false H e).bind ke) (ke (undef, H)) := ⟨R6⟩
instance : Gd ((gE (vb false) true H e).bind ke) (ke (undef, H)) := ⟨R5⟩
instance : Gd ((gE (vb true) true H e).bind ke) (e.bind ke) := ⟨nZ⟩
instance : Gd ((gE (vb false) false H e).bind ke) (e.bind ke) := ⟨zn⟩
instance : Gd ((uY (yv (vb true)) false e1 (some undef)).bind k) (k undef) := ⟨KH⟩
instance : Gd ((uY (yv (vb false)) true e1 (some undef)).bind k) (k undef) := ⟨KG⟩
instance : Gd ((uY (yv (vb true)) true e1 (some undef)).bind k) (e1.bind k) := ⟨KI⟩
instance : Gd ((uY (yv (vb false)) false e1 (some undef)).bind k) (e1.bind k) := ⟨Cx⟩
instance : Gd (fu (vb true) true p x H k) (ld p x H k) := ⟨adI⟩
instance : Gd (fu (vb false) false p x H k) (ld p x H k) := ⟨adF⟩
instance : Gd (fu (vb true) false p x H k) (k undef) := ⟨adH⟩
instance : Gd (fu (vb false) true p x H k) (k undef) := ⟨adG⟩
instance : Gd (mI (vb true) true n p x H k) (ldN n p x H k) := ⟨V6⟩
instance : Gd (mI (vb false) false n p x H k) (ldN n p x H k) := ⟨V3⟩
instance : Gd (mI (vb true) false n p x H k) (k undef) := ⟨V5⟩
instance : Gd (mI (vb false) true n p x H k) (k undef) := ⟨V4⟩
instance : Gd ((gB (vb true) true e1).bind k) (e1.bind k) := ⟨gt⟩
instance : Gd ((gB (vb false) false e1).bind k) (e1.bind k) := ⟨nY⟩
instance : Gd ((ot .not (vb c)).bind k) (k (vb (!c))) := ⟨aa wB⟩
instance : Gd (ax (vb true) o1 o2) o1 := ⟨adE⟩
instance : Gd (ax (vb false) o1 o2) o2 := ⟨Cv⟩
instance : Gd ((gV undef c v).bind k) (k undef) := ⟨aa alJ⟩
instance : Gd ((gB undef c e1).bind k) (k undef) := ⟨aa alI⟩
instance : Gd (fu undef c p x H k) (k undef) := ⟨agF⟩
class Gh (x : OV) (y : outParam OV) : Prop where
 go : ∀ {Q : Value → AH → Prop}, wp y Q → wp x Q
theorem gh {x y : OV} {Q : Value → AH → Prop} [g : Gh x y] (h : wp y Q) : wp x Q := g.go h
instance : Gh ((aQ (vb true) a b).bind k) (k a) := ⟨aa (BI _ _)⟩
instance : Gh ((aQ (vb false) a b).bind k) (k b) := ⟨aa (GQ _ _)⟩
instance : Gh ((gV (vb true) true v).bind k) (k v) := ⟨aa ahD⟩
instance : Gh ((gV (vb false) false v).bind k) (k v) := ⟨aa ahA⟩
instance : Gh ((gV (vb true) false v).bind k) (k undef) := ⟨aa ahC⟩
instance : Gh ((gV (vb false) true v).bind k) (k undef) := ⟨aa ahB⟩
instance : Gh ((gB (vb true) false e1).bind k) (k undef) := ⟨aa ag9⟩
instance : Gh ((gB (vb false) true e1).bind k) (k undef) := ⟨aa ag8⟩
instance : Gh ((gE (vb true) false H e).bind ke) (ke (undef, H)) := ⟨R6⟩
instance : Gh ((gE (vb false) true H e).bind ke) (ke (undef, H)) := ⟨R5⟩
instance : Gh ((gE (vb true) true H e).bind ke) (e.bind ke) := ⟨nZ⟩
instance : Gh ((gE (vb false) false H e).bind ke) (e.bind ke) := ⟨zn⟩
instance : Gh ((uY (yv (vb true)) false e1 (some undef)).bind k) (k undef) := ⟨KH⟩
instance : Gh ((uY (yv (vb false)) true e1 (some undef)).bind k) (k undef) := ⟨KG⟩
instance : Gh ((uY (yv (vb true)) true e1 (some undef)).bind k) (e1.bind k) := ⟨KI⟩
instance : Gh ((uY (yv (vb false)) false e1 (some undef)).bind k) (e1.bind k) := ⟨Cx⟩
end
structure Mu where
 V : cn → Nat
 E : List Ev
 N : Nat
abbrev Mu.log (μ : Mu) (who kind : Int) (at' : cn) : Mu := { μ with E := μ.E ++ [⟨who, kind, at'⟩], N := μ.N + 1 }
abbrev Mu.put (μ : Mu) (at' : cn) (v : Nat) : Mu := { μ with V := fun l => if l = at' then v else μ.V l }
def ez (al : List (cn × Nat)) (l : cn) : Nat := ((al.find? fun p => p.1 == l).map (·.2)).getD 0
def akI (p : cn × Nat) (e : MapEntry) : Prop := e.key = dw p.1 ∧ e.val = .agg #[vu p.2]
inductive EntsOf : List (cn × Nat) → List MapEntry → Prop
 | nil : EntsOf [] []
 | cons {p : cn × Nat} {l : List (cn × Nat)} {e : MapEntry} {es : List MapEntry} (h : akI p e) (k : EntsOf l es) : EntsOf (p :: l) (e :: es)
theorem DR (a b : cn) : jA (.flat 3) (dw a) (dw b) = some (a == b) := by
 simp only [jA, dw]
 rw [if_pos ⟨rfl, rfl⟩]
 simp only [bn, if_true, Option.map_some, Bool.and_true]
 rfl
theorem Uh {al : List (cn × Nat)} {es : List MapEntry} (h : EntsOf al es) (l : cn) : ∀ i, ∃ r, aY (.flat 3) (dw l) es i = some r ∧ (match r with
 | some (j, v) => v = .agg #[vu (ez al l)] ∧ i ≤ j ∧ (∃ p, al[j - i]? = some p ∧ p.1 = l) ∧ ∀ q, q < j - i → ∀ p, al[q]? = some p → p.1 ≠ l
 | none => ez al l = 0 ∧ ∀ p ∈ al, p.1 ≠ l) := by
 induction h with
 | nil => intro i; exact ⟨none, rfl, rfl, by simp⟩
 | @cons p al e es h k ih =>
  intro i
  simp only [aY]
  rw [h.1, DR]
  simp only [Option.bind_some]
  by_cases hp : p.1 = l
  ·have e1 : (l == p.1) = true := by simp [hp]
   rw [if_pos e1]
   refine ⟨_, rfl, ?_, Nat.le_refl _, ⟨p, by simp, hp⟩, fun q hq => by omega⟩
   rw [h.2]
   simp [ez, hp]
  ·have e1 : ¬ ((l == p.1) = true) := by simp; exact fun h => hp h.symm
   rw [if_neg e1]
   obtain ⟨r, h1, h2⟩ := ih (i + 1)
   have hg : ez (p :: al) l = ez al l := by simp [ez, hp]
   refine ⟨r, h1, ?_⟩
   cases r with
   | none =>
    simp only at h2 ⊢
    rw [hg]
    exact ⟨h2.1, fun q hq => by
     rcases List.mem_cons.1 hq with rfl | hq
     ·exact hp
     ·exact h2.2 q hq⟩
   | some r =>
    obtain ⟨j, v⟩ := r
    simp only at h2 ⊢
    rw [hg]
    obtain ⟨a1, a2, ⟨p', a3, a4⟩, a5⟩ := h2
    refine ⟨a1, by omega, ⟨p', ?_, a4⟩, fun q hq p'' hp'' => ?_⟩
    ·rw [show j - i = (j - (i + 1)) + 1 from by omega]; exact a3
    ·cases q with
     | zero => simp at hp''; rw [← hp'']; exact hp
     | succ q => exact a5 q (by omega) p'' (by simpa using hp'')
def la : List (cn × Nat) → cn → Nat → List (cn × Nat)
 | [], l, v => [(l, v)]
 | p :: al, l, v => if p.1 = l then (l, v) :: al else p :: la al l v
theorem dF (p : cn × Nat) (al : List (cn × Nat)) (l : cn) : ez (p :: al) l = if p.1 = l then p.2 else ez al l := by
 unfold ez
 by_cases h : p.1 = l
 ·simp [h]
 ·simp [h]
theorem Dg (l : cn) (v : Nat) (x : cn) : ∀ al, ez (la al l v) x = if x = l then v else ez al x := by
 intro al
 induction al with
 | nil =>
  simp only [la, dF]
  by_cases h : l = x
  ·simp [h]
  ·have : ¬ x = l := fun e => h e.symm
   simp [h, this]
 | cons p al ih =>
  simp only [la]
  by_cases hp : p.1 = l
  ·rw [if_pos hp, dF, dF]
   by_cases h : l = x
   ·simp [h]
   ·have h2 : ¬ x = l := fun e => h e.symm
    simp [h, h2, hp]
  ·rw [if_neg hp, dF, dF, ih]
   by_cases h : p.1 = x
   ·have h2 : ¬ x = l := fun e => hp (h.trans e)
    simp [h, h2]
   ·simp [h]
theorem adC {al : List (cn × Nat)} {es : List MapEntry} (h : EntsOf al es) (l : cn) (v : Nat) : ∀ i, match aY (.flat 3) (dw l) es i with
 | some (some (j, _)) => i ≤ j ∧ EntsOf (la al l v) (es.modify (j - i) fun e => { e with key := dw l, val := .agg #[vu v] })
 | some none => ∀ born, EntsOf (la al l v) (es ++ [{ key := dw l, val := .agg #[vu v], born := born }])
 | none => False := by
 induction h with
 | nil => intro i born; exact .cons ⟨rfl, rfl⟩ .nil
 | @cons p al e es h k ih =>
  intro i
  simp only [aY]
  rw [h.1, DR]
  simp only [Option.bind_some]
  by_cases hp : p.1 = l
  ·have e1 : (l == p.1) = true := by simp [hp]
   rw [if_pos e1]
   simp only [la, if_pos hp]
   refine ⟨Nat.le_refl _, ?_⟩
   simp only [Nat.sub_self]
   exact .cons ⟨rfl, rfl⟩ k
  ·have e1 : ¬ ((l == p.1) = true) := by simp; exact fun h => hp h.symm
   rw [if_neg e1]
   have hi := ih (i + 1)
   simp only [la, if_neg hp]
   cases hf : aY (.flat 3) (dw l) es (i + 1) with
   | none => rw [hf] at hi; exact hi
   | some r =>
    rw [hf] at hi
    cases r with
    | none => intro born; exact .cons h (hi born)
    | some r =>
     obtain ⟨j, v'⟩ := r
     simp only at hi ⊢
     refine ⟨by omega, ?_⟩
     rw [show j - i = (j - (i + 1)) + 1 from by omega]
     exact .cons h hi.2
section
variable {P P' R : SP} {H : AH} {c ck : Nat} {es : List MapEntry} {al : List (cn × Nat)} {Q : Value → AH → Prop}
theorem ajZ {k : Value → OV} {at' : cn} (ha : EntsOf al es) (h : ae P H) [i : Hs P c (.map es ck)] (hk : wp (k (.agg #[vu (ez al at')])) Q) : wp ((ci (.flat 3) (.agg #[vw 0]) (.map (some c)) (dw at') false H).bind k) Q := by
 have hg := i.get h
 obtain ⟨r, h1, h2⟩ := Uh ha at' 0
 refine aa ?_ hk
 unfold ci
 rw [if_pos (show gU (.flat 3) (dw at') = true from rfl)]
 simp only [jc, hg, Option.bind_some, h1, Option.map_some]
 cases r with
 | none => simp only at h2 ⊢; rw [h2.1]; rfl
 | some r => simp only at h2 ⊢; rw [h2.1]; rfl
theorem ak4 {k : AH → OV} {at' : cn} {v : Nat} (ha : EntsOf al es) (h : ae P H) [i : Hs P c (.map es ck)] (hk : ∀ es' ck' H', EntsOf (la al at' v) es' → (∀ P', Up P c (.map es' ck') P' → ae P' H') → wp (k H') Q) :
 wp ((dD (.flat 3) (.map (some c)) (dw at') (.agg #[vu v]) H).bind k) Q := by
 have hg := i.get h
 have hu := adC ha at' v 0
 unfold dD
 rw [if_pos (show gU (.flat 3) (dw at') = true from rfl)]
 simp only [hg]
 cases hf : aY (.flat 3) (dw at') es 0 with
 | none => rw [hf] at hu; exact absurd hu id
 | some r =>
  rw [hf] at hu
  cases r with
  | none =>
   simp only [Option.map_some, Option.bind_some]
   exact hk _ _ _ (hu ck) fun P' u => u.set h
  | some r =>
   obtain ⟨j, v'⟩ := r
   simp only [Option.map_some, Option.bind_some]
   exact hk _ _ _ hu.2 fun P' u => u.set h
end
def bd (m : Nat) (μ : Mu) : SP := ex fun g : Nat × Value × List (cn × Nat) × List MapEntry × Nat =>
 pu (EntsOf g.2.2.1 g.2.2.2.1 ∧ (∀ l, ez g.2.2.1 l = μ.V l) ∧ μ.E.length ≤ μ.N) * (blk m (.cells false [.map (some g.1), g.2.1]) * (blk g.1 (.map g.2.2.2.1 g.2.2.2.2) * sl 5 g.2.1 μ.E.length (nk μ.E)))
theorem mT (m : Nat) (μ : Mu) (who kind : Int) (at' : cn) (hE : μ.N < 1099511627776) : Sp cK [vp m, vi who, vi kind, dw at'] (bd m μ) (fun _ : Unit => .tuple #[]) (fun _ => bd m (μ.log who kind at')) := by
 refine av fun R H h => ?_
 obtain ⟨⟨c, l, al, es, ck⟩, h⟩ := ae.ex.1 h
 rw [ar, ae.pu] at h
 obtain ⟨hp, h⟩ := h
 dsimp only at h hp
 refine aw (fun r => yc _ _ _ _ H) ?_
 refine aO (cs := [vi at'.1, vi at'.2.1, vi at'.2.2]) h fun b0 H1 h1 => ?_
 refine am h1 ac rfl ?_
 refine aL h1 ?_
 refine KF (cs := [vi who, vi kind, vi at'.1, vi at'.2.1, vi at'.2.2]) rfl ?_
 refine EN (cs := [vi who, vi kind, vi at'.1, vi at'.2.1, vi at'.2.2]) h1 rfl fun b1 H2 h2 => ?_
 have hl := hp.2.2
 refine ahW h2 rfl (by omega) (by omega) rfl (by unfold cp; omega) fun a' c' H3 h3 => ?_
 refine aK h3 ac rfl rfl fun H4 h4 => ?_
 refine ap ⟨(), rfl, ?_⟩
 refine ae.ex.2 ⟨(c, .slice a' (μ.E.length + 1) c', al, es, ck), ?_⟩
 rw [ar, ae.pu]
 refine ⟨⟨hp.1, hp.2.1, by simp; exact hp.2.2⟩, ?_⟩
 have e1 : (μ.log who kind at').E.length = μ.E.length + 1 := by simp [Mu.log]
 have e2 : nk (μ.log who kind at').E = nk μ.E ++ [vi who, vi kind, vi at'.1, vi at'.2.1, vi at'.2.2] := by rw [Mu.log, Fa]; rfl
 rw [e1, e2]
 exact h4.to
theorem t4 (m : Nat) (μ : Mu) (at' : cn) : Sp dV [vp m, dw at'] (bd m μ) (fun _ : Unit => vu (μ.V at')) (fun _ => bd m μ) := by
 refine av fun R H h => ?_
 have h0 := h
 obtain ⟨⟨c, l, al, es, ck⟩, h⟩ := ae.ex.1 h
 rw [ar, ae.pu] at h
 obtain ⟨hp, h⟩ := h
 dsimp only at h hp
 refine aw (fun r => xZ _ _ H) ?_
 refine aO (cs := [vi at'.1, vi at'.2.1, vi at'.2.2]) h fun b0 H1 h1 => ?_
 refine am h1 ac rfl ?_
 refine aL h1 ?_
 refine ajZ (at' := at') hp.1 h1 ?_
 refine aa (v := vu (ez al at')) rfl ?_
 refine ap ⟨(), by rw [hp.2.1], ?_⟩
 refine ae.ex.2 ⟨(c, l, al, es, ck), ?_⟩
 rw [ar, ae.pu]
 exact ⟨hp, h1.to⟩
theorem Jt {m : Nat} {μ : Mu} {at' : cn} {v : Nat} {R P : SP} {H : AH} {c : Nat} {l : Value} {al : List (cn × Nat)} {es : List MapEntry} {k : AH → OV} {Q : Value → AH → Prop} {ck : Nat}
 (hp : EntsOf al es ∧ (∀ l, ez al l = μ.V l) ∧ μ.E.length ≤ μ.N) (h : ae P H) [f : Fr P (blk m (.cells false [.map (some c), l]) * (blk c (.map es ck) * sl 5 l μ.E.length (nk μ.E))) R] [i : Hs P c (.map es ck)]
 (hk : ∀ H', ae (bd m (μ.put at' v) * R) H' → wp (k H') Q) : wp ((dD (.flat 3) (.map (some c)) (dw at') (.agg #[vu v]) H).bind k) Q := by
 have h' := ae.fr (f := f) h
 refine ak4 hp.1 h' fun es' ck' H' he hh => hk H' ?_
 have h2 := hh _ inferInstance
 refine ae.ex.2 ⟨(c, l, la al at' v, es', ck'), ?_⟩
 rw [ar, ae.pu]
 refine ⟨⟨he, fun x => ?_, hp.2.2⟩, h2.to⟩
 dsimp only
 rw [Dg, hp.2.1]
theorem Uy (m : Nat) (μ : Mu) (who : Int) (at' : cn) (v : Nat) (hE : μ.N < 1099511627776) : Sp cq [vp m, vi who, dw at', vu v] (bd m μ) (fun _ : Unit => .tuple #[]) (fun _ => bd m ((μ.log who 2 at').put at' v)) := by
 refine av fun R H h => ?_
 refine aw (fun r => vG _ _ _ _ H) ?_
 refine aO (cs := [vi at'.1, vi at'.2.1, vi at'.2.2]) h fun b0 H1 h1 => ?_
 refine aL h1 ?_
 refine af h1 (mT m μ who 2 at' hE) fun _ H2 h2 => ?_
 obtain ⟨⟨c, l, al, es, ck⟩, h2⟩ := ae.ex.1 h2
 rw [ar, ae.pu] at h2
 obtain ⟨hp, h2⟩ := h2
 dsimp only at h2 hp
 refine am h2 ac rfl ?_
 refine aL h2 ?_
 refine KF (cs := [vu v]) rfl ?_
 refine Jt (m := m) (l := l) (μ := μ.log who 2 at') (at' := at') (v := v) hp h2 fun H3 h3 => ?_
 exact ap ⟨(), rfl, h3.to⟩
theorem Ju (m : Nat) (μ : Mu) (who : Int) (at' : cn) (v : Nat) (hE : μ.N < 1099511627776) : Sp im [vp m, vi who, dw at', vu v] (bd m μ) (fun _ : Unit => vu (μ.V at')) (fun _ => bd m ((μ.log who 3 at').put at' v)) := by
 refine av fun R H h => ?_
 refine aw (fun r => yd _ _ _ _ H) ?_
 refine aO (cs := [vi at'.1, vi at'.2.1, vi at'.2.2]) h fun b0 H1 h1 => ?_
 refine aL h1 ?_
 refine af h1 (t4 m μ at') fun _ H2 h2 => ?_
 refine aL h2 ?_
 refine af h2 (mT m μ who 3 at' hE) fun _ H3 h3 => ?_
 obtain ⟨⟨c, l, al, es, ck⟩, h3⟩ := ae.ex.1 h3
 rw [ar, ae.pu] at h3
 obtain ⟨hp, h3⟩ := h3
 dsimp only at h3 hp
 refine am h3 ac rfl ?_
 refine aL h3 ?_
 refine KF (cs := [vu v]) rfl ?_
 refine Jt (m := m) (l := l) (μ := μ.log who 3 at') (at' := at') (v := v) hp h3 fun H4 h4 => ?_
 exact ap ⟨(), rfl, h4.to⟩
theorem aaG (m : Nat) (μ : Mu) (who : Int) (at' : cn) (hE : μ.N < 1099511627776) : Sp cJ [vp m, vi who, dw at'] (bd m μ) (fun _ : Unit => vu (μ.V at')) (fun _ => bd m (μ.log who 1 at')) := by
 refine av fun R H h => ?_
 refine aw (fun r => xY _ _ _ H) ?_
 refine aO (cs := [vi at'.1, vi at'.2.1, vi at'.2.2]) h fun b0 H1 h1 => ?_
 refine aL h1 ?_
 refine af h1 (mT m μ who 1 at' hE) fun _ H2 h2 => ?_
 refine aL h2 ?_
 refine af h2 (t4 m (μ.log who 1 at') at') fun _ H3 h3 => ?_
 exact ap ⟨(), rfl, h3.to⟩
abbrev Mu.swap (μ : Mu) (who : Int) (at' : cn) (was now : Nat) : Mu := if μ.V at' = was then (μ.log who 3 at').put at' now else μ.log who 4 at'
theorem aaJ (m : Nat) (μ : Mu) (who : Int) (at' : cn) (was now : Nat) (hE : μ.N < 1099511627776) :
 Sp dW [vp m, vi who, dw at', vu was, vu now] (bd m μ) (fun _ : Unit => vb (decide (μ.V at' = was))) (fun _ => bd m (μ.swap who at' was now)) := by
 refine av fun R H h => ?_
 refine aw (fun r => yb _ _ _ _ _ H) ?_
 refine aO (cs := [vi at'.1, vi at'.2.1, vi at'.2.2]) h fun b0 H1 h1 => ?_
 refine aL h1 ?_
 refine af h1 (t4 m μ at') fun _ H2 h2 => ?_
 refine aa ahJ ?_
 unfold Mu.swap
 refine bH (fun hc => ?_) (fun hc => ?_)
 ·have hc : ¬ μ.V at' = was := by simpa using hc
  rw [if_neg hc, decide_eq_false hc]
  refine aL h2 ?_
  refine af h2 (mT m μ who 4 at' hE) fun _ H3 h3 => ?_
  exact ap ⟨(), rfl, h3.to⟩
 ·have hc : μ.V at' = was := by simpa using hc
  rw [if_pos hc, decide_eq_true hc]
  refine aL h2 ?_
  refine af h2 (Ju m μ who at' now hE) fun _ H3 h3 => ?_
  exact ap ⟨(), rfl, h3.to⟩
theorem afR (m : Nat) (μ : Mu) (who : Int) (at' : cn) (n : Nat) (hE : μ.N < 1099511627776) :
 Sp eH [vp m, vi who, dw at', vu n] (bd m μ) (fun _ : Unit => vu (μ.V at')) (fun _ => bd m ((μ.log who 3 at').put at' ((μ.V at' + n) % 18446744073709551616))) := by
 refine av fun R H h => ?_
 refine aw (fun r => By _ _ _ _ H) ?_
 repeat (first | refine aG ‹_› fun _ _ _ => ?_ | refine aO ‹_› fun _ _ _ => ?_ | refine bR ‹_› fun _ _ _ => ?_ | refine aL ‹_› ?_ | refine am ‹_› ac rfl ?_ | refine am ‹_› ah rfl ?_ | refine aW ‹_› ac ?_ | refine aW ‹_› ah ?_ | refine aI ac ?_ | refine aI ah ?_ | refine aE ‹_› rfl ?_ | refine aK ‹_› ac rfl rfl fun _ _ => ?_ | refine aK ‹_› ah rfl rfl fun _ _ => ?_ | refine bX ‹_› rfl rfl fun _ _ => ?_ | refine dO ?_ | refine jH ‹_› fun _ _ _ => ?_ | refine aP ?_ | refine aA ‹_› ‹_› rfl ?_ | refine bg ‹_› ‹_› rfl ?_ | refine b6 ?_)
 refine af (by assumption) (t4 m μ at') fun _ _ _ => ?_
 repeat (first | refine aG ‹_› fun _ _ _ => ?_ | refine aO ‹_› fun _ _ _ => ?_ | refine bR ‹_› fun _ _ _ => ?_ | refine aL ‹_› ?_ | refine am ‹_› ac rfl ?_ | refine am ‹_› ah rfl ?_ | refine aW ‹_› ac ?_ | refine aW ‹_› ah ?_ | refine aI ac ?_ | refine aI ah ?_ | refine aE ‹_› rfl ?_ | refine aK ‹_› ac rfl rfl fun _ _ => ?_ | refine aK ‹_› ah rfl rfl fun _ _ => ?_ | refine bX ‹_› rfl rfl fun _ _ => ?_ | refine dO ?_ | refine jH ‹_› fun _ _ _ => ?_ | refine aP ?_ | refine aA ‹_› ‹_› rfl ?_ | refine bg ‹_› ‹_› rfl ?_ | refine b6 ?_)
 refine aa (agX) ?_
 refine af (by assumption) (Ju m μ who at' _ hE) fun _ _ _ => ?_
 exact ap ⟨(), rfl, ae.to (by assumption)⟩
theorem aaI (m : Nat) (μ : Mu) (who : Int) (at' : cn) (hE : μ.N < 1099511627776) :
 Sp kJ [vp m, vi who, dw at'] (bd m μ) (fun _ : Unit => .tuple #[]) (fun _ => bd m (μ.log who 5 at')) := by
 refine av fun R H h => ?_
 refine aw (fun r => ya _ _ _ H) ?_
 repeat (first | refine aG ‹_› fun _ _ _ => ?_ | refine aO ‹_› fun _ _ _ => ?_ | refine bR ‹_› fun _ _ _ => ?_ | refine aL ‹_› ?_ | refine am ‹_› ac rfl ?_ | refine am ‹_› ah rfl ?_ | refine aW ‹_› ac ?_ | refine aW ‹_› ah ?_ | refine aI ac ?_ | refine aI ah ?_ | refine aE ‹_› rfl ?_ | refine aK ‹_› ac rfl rfl fun _ _ => ?_ | refine aK ‹_› ah rfl rfl fun _ _ => ?_ | refine bX ‹_› rfl rfl fun _ _ => ?_ | refine dO ?_ | refine jH ‹_› fun _ _ _ => ?_ | refine aP ?_ | refine aA ‹_› ‹_› rfl ?_ | refine bg ‹_› ‹_› rfl ?_ | refine b6 ?_)
 refine af (by assumption) (mT m μ who 5 at' hE) fun _ _ _ => ?_
 exact ap ⟨(), rfl, ae.to (by assumption)⟩
theorem vI (m : Nat) (μ : Mu) (who : Int) (at' : cn) (hE : μ.N < 1099511627776) :
 Sp eE [vp m, vi who, dw at'] (bd m μ) (fun _ : Unit => .tuple #[]) (fun _ => bd m (μ.log who 6 at')) := by
 refine av fun R H h => ?_
 refine aw (fun r => vH _ _ _ H) ?_
 repeat (first | refine aG ‹_› fun _ _ _ => ?_ | refine aO ‹_› fun _ _ _ => ?_ | refine bR ‹_› fun _ _ _ => ?_ | refine aL ‹_› ?_ | refine am ‹_› ac rfl ?_ | refine am ‹_› ah rfl ?_ | refine aW ‹_› ac ?_ | refine aW ‹_› ah ?_ | refine aI ac ?_ | refine aI ah ?_ | refine aE ‹_› rfl ?_ | refine aK ‹_› ac rfl rfl fun _ _ => ?_ | refine aK ‹_› ah rfl rfl fun _ _ => ?_ | refine bX ‹_› rfl rfl fun _ _ => ?_ | refine dO ?_ | refine jH ‹_› fun _ _ _ => ?_ | refine aP ?_ | refine aA ‹_› ‹_› rfl ?_ | refine bg ‹_› ‹_› rfl ?_ | refine b6 ?_)
 refine af (by assumption) (mT m μ who 6 at' hE) fun _ _ _ => ?_
 exact ap ⟨(), rfl, ae.to (by assumption)⟩
theorem Sp.imp {α : Type} {f : Nat} {args : List Value} {P : SP} {v : α → Value} {Q Q' : α → SP} (s : Sp f args P v Q) (h : ∀ x R H, ae (Q x * R) H → ae (Q' x * R) H) : Sp f args P v Q' := by
 intro R H hh
 obtain ⟨x, H', e, hq⟩ := s R H hh
 exact ⟨x, H', e, h x R H' hq⟩
theorem jl {m : Nat} {V : cn → Nat} {E : List Ev} {N N' : Nat} {R : SP} {H : AH} (hN : N ≤ N') (h : ae (bd m ⟨V, E, N⟩ * R) H) : ae (bd m ⟨V, E, N'⟩ * R) H := by
 obtain ⟨g, h⟩ := ae.ex.1 h
 rw [ar, ae.pu] at h
 refine ae.ex.2 ⟨g, ?_⟩
 rw [ar, ae.pu]
 exact ⟨⟨h.1.1, h.1.2.1, Nat.le_trans h.1.2.2 hN⟩, h.2⟩
abbrev Mu.acc (μ : Mu) (who kind : Int) (at' : cn) : Mu := { V := μ.V, E := μ.E ++ [⟨who, kind, at'⟩], N := μ.N + 2 }
abbrev Mu.swp (μ : Mu) (who : Int) (at' : cn) (was now : Nat) : Mu := { V := (μ.swap who at' was now).V, E := (μ.swap who at' was now).E, N := μ.N + 2 }
theorem BE (m : Nat) (μ : Mu) (who : Int) (at' : cn) (hE : μ.N < 1099511627776) : Sp cJ [vp m, vi who, dw at'] (bd m μ) (fun _ : Unit => vu (μ.V at')) (fun _ => bd m (μ.acc who 1 at')) :=
 (aaG m μ who at' hE).imp fun _ R H h => jl (by simp) h
theorem ud (m : Nat) (μ : Mu) (who : Int) (at' : cn) (v : Nat) (hE : μ.N < 1099511627776) : Sp cq [vp m, vi who, dw at', vu v] (bd m μ) (fun _ : Unit => .tuple #[]) (fun _ => bd m ((μ.acc who 2 at').put at' v)) :=
 (Uy m μ who at' v hE).imp fun _ R H h => jl (by simp) h
theorem Np (m : Nat) (μ : Mu) (who : Int) (at' : cn) (was now : Nat) (hE : μ.N < 1099511627776) :
 Sp dW [vp m, vi who, dw at', vu was, vu now] (bd m μ) (fun _ : Unit => vb (decide (μ.V at' = was))) (fun _ => bd m (μ.swp who at' was now)) :=
 (aaJ m μ who at' was now hE).imp fun _ R H h => by
  have : (μ.swap who at' was now).N ≤ μ.N + 2 := by unfold Mu.swap; split <;> simp
  exact jl this h
theorem abF (m : Nat) (μ : Mu) (who : Int) (at' : cn) (n : Nat) (hE : μ.N < 1099511627776) :
 Sp eH [vp m, vi who, dw at', vu n] (bd m μ) (fun _ : Unit => vu (μ.V at')) (fun _ => bd m ((μ.acc who 3 at').put at' ((μ.V at' + n) % 18446744073709551616))) :=
 (afR m μ who at' n hE).imp fun _ R H h => jl (by simp) h
def E9 (p : cn × Nat) : List Value := [vi p.1.1, vi p.1.2.1, vi p.1.2.2]
def Ip (p : cn × Nat) : List Value := [vu p.2]
instance : Enc E9 3 := ⟨fun _ => rfl, fun _ => rfl, by omega⟩
instance : Enc Ip 1 := ⟨fun _ => rfl, fun _ => rfl, by omega⟩
def DX (m : Nat) (al : List (cn × Nat)) (E : List Ev) : SP := ex fun g : Value × Value × Value =>
 blk m (.cells false [g.1, g.2.1, g.2.2]) * (ts 3 E9 g.1 al * (ts 1 Ip g.2.1 al * ts 5 Ev.cells g.2.2 E))
def bi (m : Nat) (μ : Mu) : SP := ex fun al : List (cn × Nat) => pu ((∀ l, ez al l = μ.V l) ∧ al.length + μ.E.length ≤ μ.N) * DX m al μ.E
def f3 (al : List (cn × Nat)) (l : cn) : Nat := al.findIdx fun p => p.1 == l
def jt (al : List (cn × Nat)) (l : cn) : List (cn × Nat) := if f3 al l < al.length then al else al ++ [(l, 0)]
theorem iO (p : cn × Nat) (al : List (cn × Nat)) (l : cn) : f3 (p :: al) l = if p.1 = l then 0 else f3 al l + 1 := by
 unfold f3
 rw [List.findIdx_cons]
 by_cases h : p.1 = l
 ·simp [h]
 ·have : (p.1 == l) = false := by simpa using h
  simp [h, this]
theorem zy (l : cn) : ∀ (al : List (cn × Nat)) (h : f3 al l < al.length), al[f3 al l] = (l, ez al l) := by
 intro al
 induction al with
 | nil => intro h; simp at h
 | cons p al ih =>
  intro h
  have e := iO p al l
  by_cases hp : p.1 = l
  ·rw [if_pos hp] at e
   simp only [e, List.getElem_cons_zero, dF, hp, if_true]
   exact Prod.ext hp rfl
  ·rw [if_neg hp] at e
   rw [e, List.length_cons] at h
   simp only [e, List.getElem_cons_succ, dF, hp, if_false]
   exact ih (by omega)
theorem KZ (l x : cn) : ∀ (al : List (cn × Nat)), ¬ f3 al l < al.length → ez (al ++ [(l, 0)]) x = ez al x := by
 intro al
 induction al with
 | nil =>
  intro _
  show ez [(l, 0)] x = ez [] x
  rw [dF]
  split <;> rfl
 | cons p al ih =>
  intro h
  have e := iO p al l
  by_cases hp : p.1 = l
  ·rw [if_pos hp] at e
   simp [e] at h
  ·rw [if_neg hp] at e
   rw [List.cons_append, dF, dF, ih (by rw [e, List.length_cons] at h; omega)]
theorem zz (l : cn) (al : List (cn × Nat)) (h : ¬ f3 al l < al.length) : f3 (al ++ [(l, 0)]) l = al.length := by
 induction al with
 | nil => simp [f3, List.findIdx_cons]
 | cons p al ih =>
  have e := iO p al l
  by_cases hp : p.1 = l
  ·rw [if_pos hp] at e
   simp [e] at h
  ·rw [if_neg hp] at e
   rw [List.cons_append, iO, if_neg hp, ih (by rw [e, List.length_cons] at h; omega), List.length_cons]
theorem Sq (al : List (cn × Nat)) (l x : cn) : ez (jt al l) x = ez al x := by
 unfold jt
 split
 ·rfl
 ·exact KZ l x al (by assumption)
theorem Wu (al : List (cn × Nat)) (l : cn) : f3 (jt al l) l < (jt al l).length := by
 unfold jt
 split
 ·assumption
 ·rw [zz l al (by assumption)]; simp
theorem Dh (l : cn) (v : Nat) : ∀ (al : List (cn × Nat)), f3 al l < al.length → la al l v = al.set (f3 al l) (l, v) := by
 intro al
 induction al with
 | nil => intro h; simp at h
 | cons p al ih =>
  intro h
  have e := iO p al l
  by_cases hp : p.1 = l
  ·rw [if_pos hp] at e
   simp [la, hp, e]
  ·rw [if_neg hp] at e
   rw [e, List.length_cons] at h
   simp only [la, hp, if_false, e, List.set_cons_succ]
   rw [ih (by omega)]
theorem Ri (m : Nat) (al : List (cn × Nat)) (E : List Ev) (who kind : Int) (at' : cn) (hE : E.length < 1099511627776) : Sp bO [vp m, vi who, vi kind, dw at'] (DX m al E) (fun _ : Unit => .tuple #[]) (fun _ => DX m al (E ++ [⟨who, kind, at'⟩])) := by
 refine av fun R H h => ?_
 refine aw (fun r => BN _ _ _ _ H) ?_
 obtain ⟨⟨a, v, e⟩, h⟩ := ae.ex.1 h
 dsimp only at h
 repeat (first | refine aG ‹_› fun _ _ _ => ?_ | refine aO ‹_› fun _ _ _ => ?_ | refine bR ‹_› fun _ _ _ => ?_ | refine aL ‹_› ?_ | refine am ‹_› ac rfl ?_ | refine am ‹_› ah rfl ?_ | refine aW ‹_› ac ?_ | refine aW ‹_› ah ?_ | refine aI ac ?_ | refine aI ah ?_ | refine aE ‹_› rfl ?_ | refine aK ‹_› ac rfl rfl fun _ _ => ?_ | refine aK ‹_› ah rfl rfl fun _ _ => ?_ | refine bX ‹_› rfl rfl fun _ _ => ?_ | refine dO ?_ | refine jH ‹_› fun _ _ _ => ?_ | refine aP ?_ | refine aA ‹_› ‹_› rfl ?_ | refine bg ‹_› ‹_› rfl ?_ | refine b6 ?_)
 refine fW ((⟨who, kind, at'⟩ : Ev)) (by assumption) rfl ?_ (by omega) fun a' c' _ _ => ?_
 ·unfold cp; omega
 repeat (first | refine aG ‹_› fun _ _ _ => ?_ | refine aO ‹_› fun _ _ _ => ?_ | refine bR ‹_› fun _ _ _ => ?_ | refine aL ‹_› ?_ | refine am ‹_› ac rfl ?_ | refine am ‹_› ah rfl ?_ | refine aW ‹_› ac ?_ | refine aW ‹_› ah ?_ | refine aI ac ?_ | refine aI ah ?_ | refine aE ‹_› rfl ?_ | refine aK ‹_› ac rfl rfl fun _ _ => ?_ | refine aK ‹_› ah rfl rfl fun _ _ => ?_ | refine bX ‹_› rfl rfl fun _ _ => ?_ | refine dO ?_ | refine jH ‹_› fun _ _ _ => ?_ | refine aP ?_ | refine aA ‹_› ‹_› rfl ?_ | refine bg ‹_› ‹_› rfl ?_ | refine b6 ?_)
 exact ap ⟨(), rfl, ae.ex.2 ⟨(a, v, .slice a' (E.length + 1) c'), ae.to (by assumption)⟩⟩
theorem HV (l : cn) : ∀ (al : List (cn × Nat)) (k : Nat) (hk : k < al.length), al[k].1 = l → (∀ j, j < k → ∀ p, al[j]? = some p → p.1 ≠ l) → f3 al l = k := by
 intro al
 induction al with
 | nil => intro k hk; simp at hk
 | cons p al ih =>
  intro k hk h hno
  rw [iO]
  cases k with
  | zero => rw [if_pos (by simpa using h)]
  | succ k =>
   rw [if_neg (hno 0 (by omega) p rfl), ih k (by simpa using hk) (by simpa using h) fun j hj q hq => hno (j + 1) (by omega) q (by simpa using hq)]
theorem Nu {m b0 : Nat} {al : List (cn × Nat)} {E : List Ev} {at' : cn} {R : SP} (hal : al.length < 1099511627776) {a v e : Value} (x4 : Value) {H : AH}
 (h : ae (blk b0 (.cells false [vi at'.1, vi at'.2.1, vi at'.2.2]) * (blk m (.cells false [a, v, e]) * (ts 3 E9 a al * (ts 1 Ip v al * ts 5 Ev.cells e E)) * R)) H) :
 ∀ (n k : Nat), k + n = al.length → (∀ j, j < k → ∀ p, al[j]? = some p → p.1 ≠ at') →
  wp (zd (vp m) (vp b0) x4 (vi k) H) fun v' H' => v' = vi (f3 (jt al at') at') ∧ ae (DX m (jt al at') E * R) H' := by
 intro n
 induction n with
 | zero =>
  intro k hk hno
  have hidx : ¬ f3 al at' < al.length := by
   intro hlt
   have := zy at' al hlt
   exact hno _ (by omega) _ (List.getElem?_eq_getElem hlt) (by rw [this])
  refine ag (BU _ _ _ _ H) ?_
  refine am h ac rfl ?_
  refine n0 (s := a) h ?_
  refine aa qf ?_
  refine bH (fun hc => ?_) (fun hc => ?_)
  ·simp at hc; omega
  refine ag (G2 _ _ _ H) ?_
  refine ag (U0 _ _ _ H) ?_
  have e1 : jt al at' = al ++ [(at', 0)] := if_neg hidx
  have e2 : f3 (jt al at') at' = al.length := by rw [e1, zz at' al hidx]
  rw [e1, ← e1, e2, e1]
  repeat (first | refine aG ‹_› fun _ _ _ => ?_ | refine aO ‹_› fun _ _ _ => ?_ | refine bR ‹_› fun _ _ _ => ?_ | refine aL ‹_› ?_ | refine am ‹_› ac rfl ?_ | refine am ‹_› ah rfl ?_ | refine aW ‹_› ac ?_ | refine aW ‹_› ah ?_ | refine aI ac ?_ | refine aI ah ?_ | refine aE ‹_› rfl ?_ | refine aK ‹_› ac rfl rfl fun _ _ => ?_ | refine aK ‹_› ah rfl rfl fun _ _ => ?_ | refine bX ‹_› rfl rfl fun _ _ => ?_ | refine dO ?_ | refine jH ‹_› fun _ _ _ => ?_ | refine aP ?_ | refine aA ‹_› ‹_› rfl ?_ | refine bg ‹_› ‹_› rfl ?_ | refine b6 ?_)
  refine fW (((at', 0) : cn × Nat)) (by assumption) rfl ?_ (by omega) fun a1 c1 H1 h1 => ?_
  ·unfold cp; omega
  repeat (first | refine aG ‹_› fun _ _ _ => ?_ | refine aO ‹_› fun _ _ _ => ?_ | refine bR ‹_› fun _ _ _ => ?_ | refine aL ‹_› ?_ | refine am ‹_› ac rfl ?_ | refine am ‹_› ah rfl ?_ | refine aW ‹_› ac ?_ | refine aW ‹_› ah ?_ | refine aI ac ?_ | refine aI ah ?_ | refine aE ‹_› rfl ?_ | refine aK ‹_› ac rfl rfl fun _ _ => ?_ | refine aK ‹_› ah rfl rfl fun _ _ => ?_ | refine bX ‹_› rfl rfl fun _ _ => ?_ | refine dO ?_ | refine jH ‹_› fun _ _ _ => ?_ | refine aP ?_ | refine aA ‹_› ‹_› rfl ?_ | refine bg ‹_› ‹_› rfl ?_ | refine b6 ?_)
  refine fW (((at', 0) : cn × Nat)) (by assumption) rfl ?_ (by omega) fun a2 c2 H2 h2 => ?_
  ·unfold cp; omega
  repeat (first | refine aG ‹_› fun _ _ _ => ?_ | refine aO ‹_› fun _ _ _ => ?_ | refine bR ‹_› fun _ _ _ => ?_ | refine aL ‹_› ?_ | refine am ‹_› ac rfl ?_ | refine am ‹_› ah rfl ?_ | refine aW ‹_› ac ?_ | refine aW ‹_› ah ?_ | refine aI ac ?_ | refine aI ah ?_ | refine aE ‹_› rfl ?_ | refine aK ‹_› ac rfl rfl fun _ _ => ?_ | refine aK ‹_› ah rfl rfl fun _ _ => ?_ | refine bX ‹_› rfl rfl fun _ _ => ?_ | refine dO ?_ | refine jH ‹_› fun _ _ _ => ?_ | refine aP ?_ | refine aA ‹_› ‹_› rfl ?_ | refine bg ‹_› ‹_› rfl ?_ | refine b6 ?_)
  refine aa (ba (by omega) (by omega)) ?_
  refine ap ⟨by congr 1; omega, ?_⟩
  exact ae.ex.2 ⟨(.slice a1 (al.length + 1) c1, .slice a2 (al.length + 1) c2, e), ae.to (by assumption)⟩
 | succ n ih =>
  intro k hk hno
  have hkl : k < al.length := by omega
  refine ag (BU _ _ _ _ H) ?_
  refine am h ac rfl ?_
  refine n0 (s := a) h ?_
  refine aa qf ?_
  refine bH (fun hc => ?_) (fun hc => ?_)
  ·refine ag (NC _ _ _ _ H) ?_
   refine am h ac rfl ?_
   refine OL (s := a) h hkl ?_
   refine aL h ?_
   refine aa (WY al[k].1 at') ?_
   refine bH (fun hc => ?_) (fun hc => ?_)
   ·have hc : al[k].1 = at' := by simpa using hc
    have hidx := HV at' al k hkl hc hno
    have e1 : jt al at' = al := by unfold jt; rw [if_pos (by omega)]
    refine ap ⟨by rw [e1, hidx], ?_⟩
    rw [e1]
    exact ae.ex.2 ⟨(a, v, e), ae.to h⟩
   ·have hc : al[k].1 ≠ at' := by simpa using hc
    refine ag (ND _ _ _ _ H) ?_
    refine aa (aC (by omega) (by omega)) ?_
    refine ih (k + 1) (by omega) fun j hj p hp => ?_
    by_cases hjk : j = k
    ·subst hjk
     rw [List.getElem?_eq_getElem hkl] at hp
     cases hp
     exact hc
    ·exact hno j (by omega) p hp
  ·simp at hc; omega
theorem UX (m : Nat) (al : List (cn × Nat)) (E : List Ev) (at' : cn) (hal : al.length < 1099511627776) : Sp xg [vp m, dw at'] (DX m al E) (fun _ : Unit => vi (f3 (jt al at') at')) (fun _ => DX m (jt al at') E) := by
 refine av fun R H h => ?_
 refine aw (fun r => ajC _ _ H) ?_
 obtain ⟨⟨a, v, e⟩, h⟩ := ae.ex.1 h
 dsimp only at h
 refine aG h fun b0 H1 h1 => ?_
 refine ag (UZ _ _ _ H1) ?_
 refine ag (NB _ _ _ _ H1) ?_
 refine (Nu hal (vi 0) h1 al.length 0 (by omega) (fun j hj => by omega)).mono fun v' H' h' => ⟨(), h'.1, h'.2⟩
theorem agE (a : Value) (al : List (cn × Nat)) (i : Nat) (hi : i < al.length) (v : Nat) : ts 3 E9 a (al.set i (al[i].1, v)) = ts 3 E9 a al := by
 unfold ts
 rw [List.length_set, Ja al i hi, nI al i hi]
 rfl
theorem Bx {m : Nat} {μ : Mu} {al : List (cn × Nat)} {a v e : Value} {P R : SP} {H : AH} (hp : (∀ l, ez al l = μ.V l) ∧ al.length + μ.E.length ≤ μ.N) (h : ae P H)
 {Z : SP} [f : Fr P ((blk m (.cells false [a, v, e]) * (ts 3 E9 a al * (ts 1 Ip v al * ts 5 Ev.cells e μ.E))) * R) Z] : ae (bi m μ * R) H := by
 refine ae.ex.2 ⟨al, ?_⟩
 rw [ar, ae.pu]
 exact ⟨hp, ae.ex.2 ⟨(a, v, e), h.to⟩⟩
theorem Sr (al : List (cn × Nat)) (l : cn) : (jt al l).length ≤ al.length + 1 := by unfold jt; split <;> simp
def xf (m : Nat) (μ : Mu) (at' : cn) (i : Nat) : SP := ex fun g : List (cn × Nat) × Value × Value × Value =>
 pu ((∀ l, ez g.1 l = μ.V l) ∧ g.1.length + μ.E.length ≤ μ.N ∧ f3 g.1 at' = i ∧ i < g.1.length) * (blk m (.cells false [g.2.1, g.2.2.1, g.2.2.2]) * (ts 3 E9 g.2.1 g.1 * (ts 1 Ip g.2.2.1 g.1 * ts 5 Ev.cells g.2.2.2 μ.E)))
theorem CE (m : Nat) (μ : Mu) (at' : cn) (hE : μ.N < 1099511627776) : Sp xg [vp m, dw at'] (bi m μ) (fun i : Nat => vi (i : Int)) (fun i => xf m { μ with N := μ.N + 1 } at' i) := by
 intro R H h
 obtain ⟨al, h⟩ := ae.ex.1 h
 rw [ar, ae.pu] at h
 obtain ⟨hp, h⟩ := h
 obtain ⟨_, H', e, h'⟩ := UX m al μ.E at' (by omega) R H h
 refine ⟨f3 (jt al at') at', H', e, ?_⟩
 obtain ⟨⟨a, v, ev⟩, h'⟩ := ae.ex.1 h'
 refine ae.ex.2 ⟨(jt al at', a, v, ev), ?_⟩
 rw [ar, ae.pu]
 have := Sr al at'
 exact ⟨⟨fun l => by rw [Sq, hp.1], by dsimp only; omega, rfl, Wu al at'⟩, h'⟩
theorem Wf (m : Nat) (μ : Mu) (who kind : Int) (at' : cn) (hE : μ.N < 1099511627776) : Sp bO [vp m, vi who, vi kind, dw at'] (bi m μ) (fun _ : Unit => .tuple #[]) (fun _ => bi m (μ.log who kind at')) := by
 intro R H h
 obtain ⟨al, h⟩ := ae.ex.1 h
 rw [ar, ae.pu] at h
 obtain ⟨hp, h⟩ := h
 obtain ⟨_, H', e, h'⟩ := Ri m al μ.E who kind at' (by omega) R H h
 refine ⟨(), H', e, ?_⟩
 refine ae.ex.2 ⟨al, ?_⟩
 rw [ar, ae.pu]
 exact ⟨⟨hp.1, by simp; omega⟩, h'⟩
theorem ai1 (m : Nat) (μ : Mu) (at2 : cn) (i : Nat) (who kind : Int) (at' : cn) (hE : μ.N < 1099511627776) : Sp bO [vp m, vi who, vi kind, dw at'] (xf m μ at2 i) (fun _ : Unit => .tuple #[]) (fun _ => xf m (μ.log who kind at') at2 i) := by
 intro R H h
 obtain ⟨⟨al, a, v, e⟩, h⟩ := ae.ex.1 h
 rw [ar, ae.pu] at h
 obtain ⟨hp, h⟩ := h
 dsimp only at hp h
 obtain ⟨_, H', e', h'⟩ := Ri m al μ.E who kind at' (by omega) R H (ae.ex.2 ⟨(a, v, e), h⟩)
 refine ⟨(), H', e', ?_⟩
 obtain ⟨⟨a2, v2, e2⟩, h'⟩ := ae.ex.1 h'
 refine ae.ex.2 ⟨(al, a2, v2, e2), ?_⟩
 rw [ar, ae.pu]
 exact ⟨⟨hp.1, by simp; omega, hp.2.2⟩, h'⟩
class Xi (P : SP) (m i : Nat) (μ : outParam Mu) (at' : outParam cn) (R : outParam SP) : Prop where
 eq : P = xf m μ at' i * R
instance (priority := high) Xi.refl (m i : Nat) (μ : Mu) (at' : cn) : Xi (xf m μ at' i) m i μ at' emp := ⟨(cX _).symm⟩
instance Xi.left (P Q R : SP) (m i : Nat) (μ : Mu) (at' : cn) [h : Xi P m i μ at' R] : Xi (P * Q) m i μ at' (R * Q) := ⟨by rw [h.eq, ar]⟩
instance Xi.right (P Q R : SP) (m i : Nat) (μ : Mu) (at' : cn) [h : Xi Q m i μ at' R] : Xi (P * Q) m i μ at' (P * R) := ⟨by rw [h.eq, bA]⟩
section
variable {m i : Nat} {μ : Mu} {at' : cn} {P R : SP} {H : AH} {Q : Value → AH → Prop}
theorem Sb {k : Value → OV} (h : ae P H) [f : Xi P m i μ at' R] (hk : wp (k (vu (μ.V at'))) Q) : wp (ld [.n, .f 1] (vp m) H fun v => ld [.i 1 (vi i)] v H k) Q := by
 have h' : ae (xf m μ at' i * R) H := by rw [← f.eq]; exact h
 obtain ⟨⟨al, a, v, e⟩, h'⟩ := ae.ex.1 h'
 rw [ar, ae.pu] at h'
 obtain ⟨hp, h'⟩ := h'
 dsimp only at hp h'
 refine am h' ac rfl ?_
 obtain ⟨p1, _, p4, p5⟩ := hp
 refine adL (s := v) h' p5 (v := vu (μ.V at')) ?_ hk
 subst p4
 rw [zy at' al p5]
 simp [Ip, p1]
theorem adM {k : AH → OV} {v : Nat} (h : ae P H) [f : Xi P m i μ at' R] (hk : ∀ H', ae (bi m (μ.put at' v) * R) H' → wp (k H') Q) : wp (ld [.n, .f 1] (vp m) H fun s => st 1 [.i 1 (vi i)] s (vu v) H k) Q := by
 have h0 : ae (xf m μ at' i * R) H := by rw [← f.eq]; exact h
 obtain ⟨⟨al, a, s, e⟩, h1⟩ := ae.ex.1 h0
 rw [ar, ae.pu] at h1
 obtain ⟨hp, h'⟩ := h1
 clear h0
 dsimp only at hp h'
 refine am h' ac rfl ?_
 obtain ⟨p1, p2, p4, p5⟩ := hp
 subst p4
 refine EO (s := s) (g := 0) ((at', v) : cn × Nat) h' p5 (.inl ⟨rfl, rfl⟩) rfl (by omega) rfl rfl fun H' h2 => hk H' ?_
 have hat := zy at' al p5
 have hk2 := agE a al (f3 al at') p5 v
 rw [hat] at hk2
 rw [← Dh at' v al p5] at h2 hk2
 rw [← hk2] at h2
 refine Bx (al := la al at' v) (a := a) (v := s) (e := e) ⟨fun l => ?_, ?_⟩ h2
 ·rw [Dg, p1]
 ·rw [Dh at' v al p5, List.length_set]; exact p2
theorem agK {x y : Value} {op : BinOp} {cl : TCls} {k : AH → OV} {v : Nat} (h : ae P H) [f : Xi P m i μ at' R] (hb : ai cl op x y = some (vu v)) (hk : ∀ H', ae (bi m (μ.put at' v) * R) H' → wp (k H') Q) :
 wp (ld [.n, .f 1] (vp m) H fun s => (ai cl op x y).bind fun z => st 1 [.i 1 (vi i)] s z H k) Q := by
 rw [hb]
 exact adM h hk
theorem aj1 (h : ae P H) [f : Xi P m i μ at' R] : ae (bi m μ * R) H := by
 have h' : ae (xf m μ at' i * R) H := by rw [← f.eq]; exact h
 obtain ⟨⟨al, a, s, e⟩, h'⟩ := ae.ex.1 h'
 rw [ar, ae.pu] at h'
 obtain ⟨hp, h'⟩ := h'
 exact Bx (al := al) (a := a) (v := s) (e := e) ⟨hp.1, hp.2.1⟩ h'
end
theorem pO (m : Nat) (μ : Mu) (who : Int) (at' : cn) (hE : μ.N < 1099511627000) : Sp dg [vp m, vi who, dw at'] (bi m μ) (fun _ : Unit => vu (μ.V at')) (fun _ => bi m (μ.acc who 1 at')) := by
 refine av fun R H h => ?_
 refine aw (fun r => yr _ _ _ H) ?_
 repeat (first | refine aG ‹_› fun _ _ _ => ?_ | refine aO ‹_› fun _ _ _ => ?_ | refine bR ‹_› fun _ _ _ => ?_ | refine aL ‹_› ?_ | refine am ‹_› ac rfl ?_ | refine am ‹_› ah rfl ?_ | refine aW ‹_› ac ?_ | refine aW ‹_› ah ?_ | refine aI ac ?_ | refine aI ah ?_ | refine aE ‹_› rfl ?_ | refine aK ‹_› ac rfl rfl fun _ _ => ?_ | refine aK ‹_› ah rfl rfl fun _ _ => ?_ | refine bX ‹_› rfl rfl fun _ _ => ?_ | refine dO ?_ | refine jH ‹_› fun _ _ _ => ?_ | refine aP ?_ | refine aA ‹_› ‹_› rfl ?_ | refine bg ‹_› ‹_› rfl ?_ | refine b6 ?_)
 refine af (by assumption) (Wf m μ who 1 at' (by omega)) fun _ _ _ => ?_
 repeat (first | refine aG ‹_› fun _ _ _ => ?_ | refine aO ‹_› fun _ _ _ => ?_ | refine bR ‹_› fun _ _ _ => ?_ | refine aL ‹_› ?_ | refine am ‹_› ac rfl ?_ | refine am ‹_› ah rfl ?_ | refine aW ‹_› ac ?_ | refine aW ‹_› ah ?_ | refine aI ac ?_ | refine aI ah ?_ | refine aE ‹_› rfl ?_ | refine aK ‹_› ac rfl rfl fun _ _ => ?_ | refine aK ‹_› ah rfl rfl fun _ _ => ?_ | refine bX ‹_› rfl rfl fun _ _ => ?_ | refine dO ?_ | refine jH ‹_› fun _ _ _ => ?_ | refine aP ?_ | refine aA ‹_› ‹_› rfl ?_ | refine bg ‹_› ‹_› rfl ?_ | refine b6 ?_)
 refine af (by assumption) (CE m (μ.log who 1 at') at' (by simp; omega)) fun i H3 h3 => ?_
 refine Sb h3 ?_
 exact ap ⟨(), rfl, ae.to (aj1 (m := m) (i := i) h3)⟩
theorem na (m : Nat) (μ : Mu) (who : Int) (at' : cn) (v : Nat) (hE : μ.N < 1099511627000) : Sp cR [vp m, vi who, dw at', vu v] (bi m μ) (fun _ : Unit => .tuple #[]) (fun _ => bi m ((μ.acc who 2 at').put at' v)) := by
 refine av fun R H h => ?_
 refine aw (fun r => vV _ _ _ _ H) ?_
 repeat (first | refine aG ‹_› fun _ _ _ => ?_ | refine aO ‹_› fun _ _ _ => ?_ | refine bR ‹_› fun _ _ _ => ?_ | refine aL ‹_› ?_ | refine am ‹_› ac rfl ?_ | refine am ‹_› ah rfl ?_ | refine aW ‹_› ac ?_ | refine aW ‹_› ah ?_ | refine aI ac ?_ | refine aI ah ?_ | refine aE ‹_› rfl ?_ | refine aK ‹_› ac rfl rfl fun _ _ => ?_ | refine aK ‹_› ah rfl rfl fun _ _ => ?_ | refine bX ‹_› rfl rfl fun _ _ => ?_ | refine dO ?_ | refine jH ‹_› fun _ _ _ => ?_ | refine aP ?_ | refine aA ‹_› ‹_› rfl ?_ | refine bg ‹_› ‹_› rfl ?_ | refine b6 ?_)
 refine af (by assumption) (Wf m μ who 2 at' (by omega)) fun _ _ _ => ?_
 repeat (first | refine aG ‹_› fun _ _ _ => ?_ | refine aO ‹_› fun _ _ _ => ?_ | refine bR ‹_› fun _ _ _ => ?_ | refine aL ‹_› ?_ | refine am ‹_› ac rfl ?_ | refine am ‹_› ah rfl ?_ | refine aW ‹_› ac ?_ | refine aW ‹_› ah ?_ | refine aI ac ?_ | refine aI ah ?_ | refine aE ‹_› rfl ?_ | refine aK ‹_› ac rfl rfl fun _ _ => ?_ | refine aK ‹_› ah rfl rfl fun _ _ => ?_ | refine bX ‹_› rfl rfl fun _ _ => ?_ | refine dO ?_ | refine jH ‹_› fun _ _ _ => ?_ | refine aP ?_ | refine aA ‹_› ‹_› rfl ?_ | refine bg ‹_› ‹_› rfl ?_ | refine b6 ?_)
 refine af (by assumption) (CE m (μ.log who 2 at') at' (by simp; omega)) fun i H3 h3 => ?_
 refine adM (at' := at') h3 fun H4 h4 => ?_
 exact ap ⟨(), rfl, h4.to⟩
theorem J1 (m : Nat) (μ : Mu) (at' : cn) (hE : μ.N < 1099511627000) : Sp iq [vp m, dw at'] (bi m μ) (fun _ : Unit => vu (μ.V at')) (fun _ => bi m { μ with N := μ.N + 1 }) := by
 refine av fun R H h => ?_
 refine aw (fun r => yu _ _ H) ?_
 repeat (first | refine aG ‹_› fun _ _ _ => ?_ | refine aO ‹_› fun _ _ _ => ?_ | refine bR ‹_› fun _ _ _ => ?_ | refine aL ‹_› ?_ | refine am ‹_› ac rfl ?_ | refine am ‹_› ah rfl ?_ | refine aW ‹_› ac ?_ | refine aW ‹_› ah ?_ | refine aI ac ?_ | refine aI ah ?_ | refine aE ‹_› rfl ?_ | refine aK ‹_› ac rfl rfl fun _ _ => ?_ | refine aK ‹_› ah rfl rfl fun _ _ => ?_ | refine bX ‹_› rfl rfl fun _ _ => ?_ | refine dO ?_ | refine jH ‹_› fun _ _ _ => ?_ | refine aP ?_ | refine aA ‹_› ‹_› rfl ?_ | refine bg ‹_› ‹_› rfl ?_ | refine b6 ?_)
 refine af (by assumption) (CE m μ at' (by omega)) fun i H3 h3 => ?_
 refine Sb h3 ?_
 exact ap ⟨(), rfl, ae.to (aj1 (m := m) (i := i) h3)⟩
theorem BT (m : Nat) (μ : Mu) (who : Int) (at' : cn) (was now : Nat) (hE : μ.N < 1099511627000) :
 Sp fi [vp m, vi who, dw at', vu was, vu now] (bi m μ) (fun _ : Unit => vb (decide (μ.V at' = was))) (fun _ => bi m (μ.swp who at' was now)) := by
 refine av fun R H h => ?_
 refine aw (fun r => yw _ _ _ _ _ H) ?_
 repeat (first | refine aG ‹_› fun _ _ _ => ?_ | refine aO ‹_› fun _ _ _ => ?_ | refine bR ‹_› fun _ _ _ => ?_ | refine aL ‹_› ?_ | refine am ‹_› ac rfl ?_ | refine am ‹_› ah rfl ?_ | refine aW ‹_› ac ?_ | refine aW ‹_› ah ?_ | refine aI ac ?_ | refine aI ah ?_ | refine aE ‹_› rfl ?_ | refine aK ‹_› ac rfl rfl fun _ _ => ?_ | refine aK ‹_› ah rfl rfl fun _ _ => ?_ | refine bX ‹_› rfl rfl fun _ _ => ?_ | refine dO ?_ | refine jH ‹_› fun _ _ _ => ?_ | refine aP ?_ | refine aA ‹_› ‹_› rfl ?_ | refine bg ‹_› ‹_› rfl ?_ | refine b6 ?_)
 refine af (by assumption) (CE m μ at' (by omega)) fun i H3 h3 => ?_
 refine Sb h3 ?_
 refine aa (ahJ) ?_
 unfold Mu.swp Mu.swap
 refine bH (fun hc => ?_) (fun hc => ?_)
 ·have hc : ¬ μ.V at' = was := by simpa using hc
  rw [if_neg hc, decide_eq_false hc]
  repeat (first | refine aG ‹_› fun _ _ _ => ?_ | refine aO ‹_› fun _ _ _ => ?_ | refine bR ‹_› fun _ _ _ => ?_ | refine aL ‹_› ?_ | refine am ‹_› ac rfl ?_ | refine am ‹_› ah rfl ?_ | refine aW ‹_› ac ?_ | refine aW ‹_› ah ?_ | refine aI ac ?_ | refine aI ah ?_ | refine aE ‹_› rfl ?_ | refine aK ‹_› ac rfl rfl fun _ _ => ?_ | refine aK ‹_› ah rfl rfl fun _ _ => ?_ | refine bX ‹_› rfl rfl fun _ _ => ?_ | refine dO ?_ | refine jH ‹_› fun _ _ _ => ?_ | refine aP ?_ | refine aA ‹_› ‹_› rfl ?_ | refine bg ‹_› ‹_› rfl ?_ | refine b6 ?_)
  refine af (by assumption) (ai1 m { μ with N := μ.N + 1 } at' i who 4 at' (by simp; omega)) fun _ H4 h4 => ?_
  exact ap ⟨(), rfl, ae.to (aj1 (m := m) (i := i) h4)⟩
 ·have hc : μ.V at' = was := by simpa using hc
  rw [if_pos hc, decide_eq_true hc]
  repeat (first | refine aG ‹_› fun _ _ _ => ?_ | refine aO ‹_› fun _ _ _ => ?_ | refine bR ‹_› fun _ _ _ => ?_ | refine aL ‹_› ?_ | refine am ‹_› ac rfl ?_ | refine am ‹_› ah rfl ?_ | refine aW ‹_› ac ?_ | refine aW ‹_› ah ?_ | refine aI ac ?_ | refine aI ah ?_ | refine aE ‹_› rfl ?_ | refine aK ‹_› ac rfl rfl fun _ _ => ?_ | refine aK ‹_› ah rfl rfl fun _ _ => ?_ | refine bX ‹_› rfl rfl fun _ _ => ?_ | refine dO ?_ | refine jH ‹_› fun _ _ _ => ?_ | refine aP ?_ | refine aA ‹_› ‹_› rfl ?_ | refine bg ‹_› ‹_› rfl ?_ | refine b6 ?_)
  refine af (by assumption) (ai1 m { μ with N := μ.N + 1 } at' i who 3 at' (by simp; omega)) fun _ H4 h4 => ?_
  refine adM (at' := at') h4 fun H5 h5 => ?_
  exact ap ⟨(), rfl, h5.to⟩
theorem GY (m : Nat) (μ : Mu) (who : Int) (at' : cn) (n : Nat) (hE : μ.N < 1099511627000) :
 Sp ga [vp m, vi who, dw at', vu n] (bi m μ) (fun _ : Unit => vu (μ.V at')) (fun _ => bi m ((μ.acc who 3 at').put at' ((μ.V at' + n) % 18446744073709551616))) := by
 refine av fun R H h => ?_
 refine aw (fun r => BM _ _ _ _ H) ?_
 repeat (first | refine aG ‹_› fun _ _ _ => ?_ | refine aO ‹_› fun _ _ _ => ?_ | refine bR ‹_› fun _ _ _ => ?_ | refine aL ‹_› ?_ | refine am ‹_› ac rfl ?_ | refine am ‹_› ah rfl ?_ | refine aW ‹_› ac ?_ | refine aW ‹_› ah ?_ | refine aI ac ?_ | refine aI ah ?_ | refine aE ‹_› rfl ?_ | refine aK ‹_› ac rfl rfl fun _ _ => ?_ | refine aK ‹_› ah rfl rfl fun _ _ => ?_ | refine bX ‹_› rfl rfl fun _ _ => ?_ | refine dO ?_ | refine jH ‹_› fun _ _ _ => ?_ | refine aP ?_ | refine aA ‹_› ‹_› rfl ?_ | refine bg ‹_› ‹_› rfl ?_ | refine b6 ?_)
 refine af (by assumption) (CE m μ at' (by omega)) fun i H3 h3 => ?_
 repeat (first | refine aG ‹_› fun _ _ _ => ?_ | refine aO ‹_› fun _ _ _ => ?_ | refine bR ‹_› fun _ _ _ => ?_ | refine aL ‹_› ?_ | refine am ‹_› ac rfl ?_ | refine am ‹_› ah rfl ?_ | refine aW ‹_› ac ?_ | refine aW ‹_› ah ?_ | refine aI ac ?_ | refine aI ah ?_ | refine aE ‹_› rfl ?_ | refine aK ‹_› ac rfl rfl fun _ _ => ?_ | refine aK ‹_› ah rfl rfl fun _ _ => ?_ | refine bX ‹_› rfl rfl fun _ _ => ?_ | refine dO ?_ | refine jH ‹_› fun _ _ _ => ?_ | refine aP ?_ | refine aA ‹_› ‹_› rfl ?_ | refine bg ‹_› ‹_› rfl ?_ | refine b6 ?_)
 refine af (by assumption) (ai1 m { μ with N := μ.N + 1 } at' i who 3 at' (by simp; omega)) fun _ H4 h4 => ?_
 refine Sb h4 ?_
 refine agK (at' := at') h4 agX fun H5 h5 => ?_
 exact ap ⟨(), rfl, h5.to⟩
def cN (w : Nat) : Bool := decide (w / 2305843009213693952 < 3)
def aR (w : Nat) : Nat := if cN w then w % 2305843009213693952 else 0
def br (w : Nat) : Int := if cN w then (w / 2305843009213693952 : Nat) else -1
def aZ (w : Nat) : Nat → Option Nat
 | 0 => if cN w ∧ br w ≠ 2 ∧ aR w < 2305843009213693951 then some (aR w + 1 + 2305843009213693952) else none
 | 1 => if br w = 1 then some (aR w) else none
 | 2 => if br w = 0 then some (aR w + 4611686018427387904) else none
 | _ => none
def BC : Option Nat → Value
 | some n => .tuple #[vu n, vb true]
 | none => .tuple #[vw 0, vb false]
theorem sV (w : Nat) : Sp ix [vu w] emp (fun _ : Unit => vb (cN w)) (fun _ => emp) := by
 refine av fun R H h => ?_
 refine aw (fun r => Dd _ H) ?_
 refine aa (ahN) ?_
 refine aa (qf) ?_
 refine ap ⟨(), ?_, h⟩
 congr 1
 unfold cN
 congr 1
 apply propext
 omega
theorem ft (w : Nat) (hw : w < 18446744073709551616) : Sp cF [vu w] emp (fun _ : Unit => vu (aR w)) (fun _ => emp) := by
 refine av fun R H h => ?_
 refine aw (fun r => Dc _ H) ?_
 refine af (by assumption) (sV w) fun _ _ _ => ?_
 refine aa (wB) ?_
 refine bH (fun hc => ?_) (fun hc => ?_)
 ·have hc : cN w = false := by simpa using hc
  refine ap ⟨(), by simp [aR, hc], ae.to (by assumption)⟩
 ·have hc : cN w = true := by simpa using hc
  refine aa (akE hw) ?_
  refine ap ⟨(), by simp [aR, hc], ae.to (by assumption)⟩
theorem je (w : Nat) (hw : w < 18446744073709551616) : Sp dC [vu w] emp (fun _ : Unit => vi (br w)) (fun _ => emp) := by
 refine av fun R H h => ?_
 refine aw (fun r => De _ H) ?_
 refine af (by assumption) (sV w) fun _ _ _ => ?_
 refine aa (wB) ?_
 refine bH (fun hc => ?_) (fun hc => ?_)
 ·have hc : cN w = false := by simpa using hc
  refine ap ⟨(), by simp [br, hc], ae.to (by assumption)⟩
 ·have hc : cN w = true := by simpa using hc
  refine aa (ahN) ?_
  refine aa (gc (by omega)) ?_
  refine ap ⟨(), by simp [br, hc], ae.to (by assumption)⟩
theorem mZ (w : Nat) (hw : w < 18446744073709551616) : Sp fh [vu w] emp (fun _ : Unit => .tuple #[vu (aR w), vi (br w), vb (cN w)]) (fun _ => emp) := by
 refine av fun R H h => ?_
 refine aw (fun r => GU _ H) ?_
 refine aa (akX) ?_
 refine aa (akV hw) ?_
 refine aa (gc (by omega)) ?_
 refine aa (EV) ?_
 refine bH (fun hc => ?_) (fun hc => ?_)
 ·have hc : cN w = false := by simp at hc; simp [cN]; omega
  refine ap ⟨(), by simp [aR, br, hc], h.to⟩
 ·have hc : cN w = true := by simp at hc; simp [cN]; omega
  refine ap ⟨(), by simp [aR, br, hc], h.to⟩
theorem wD (n : Nat) (s : Nat) (hn : n ≤ 2305843009213693951) (hs : s < 3) : Sp jC [vu n, vi (s : Int)] emp (fun _ : Unit => .tuple #[vu (s * 2305843009213693952 + n), vb true]) (fun _ => emp) := by
 refine av fun R H h => ?_
 refine aw (fun r => HL _ _ H) ?_
 refine aa (gT (by omega)) ?_
 with_reducible repeat refine gh ?_
 refine aa (CW (bu ?_)) ?_
 ·omega
 with_reducible repeat refine gh ?_
 refine aa (CW (ol ?_)) ?_
 ·omega
 with_reducible repeat refine gh ?_
 refine bH (fun hc => by cases hc) (fun _ => ?_)
 refine aa (dk (by omega) (by omega)) ?_
 have e1 : ai .other .shl (vu (s : Int).toNat) (vw 61) = some (vu (s * 2305843009213693952)) := by
  have := Dl (cl := .other) (a := s) (k := .u64) (n := 61) (by omega)
  simp only [Nat.reducePow] at this
  rw [Nat.mod_eq_of_lt (by omega)] at this
  simpa using this
 refine aa (e1) ?_
 have e2 : ai .other .or (vu (s * 2305843009213693952)) (vu n) = some (vu (s * 2305843009213693952 + n)) := by
  rw [Wy (by omega) (by omega)]
  congr 3
  have := Nat.two_pow_add_eq_or_of_lt (i := 61) (b := n) (by simp only [Nat.reducePow]; omega) s
  simp only [Nat.reducePow] at this
  rw [Nat.mul_comm, ← this]
 refine aa (e2) ?_
 exact ap ⟨(), rfl, h.to⟩
theorem BL (n : Nat) (s : Nat) (hn : n ≤ 2305843009213693951) (hs : s < 3) : Sp kK [vu n, vi (s : Int)] emp (fun _ : Unit => .tuple #[vu (s * 2305843009213693952 + n), vb true]) (fun _ => emp) := by
 refine av fun R H h => ?_
 refine aw (fun r => JW _ _ H) ?_
 refine aa (gT (by omega)) ?_
 with_reducible repeat refine gh ?_
 refine aa (CW (bu ?_)) ?_
 ·omega
 with_reducible repeat refine gh ?_
 refine aa (CW (gT ?_)) ?_
 ·omega
 with_reducible repeat refine gh ?_
 refine bH (fun hc => by cases hc) (fun _ => ?_)
 refine aa (dk (by omega) (by omega)) ?_
 have hs2 : (s : Int).toNat = s := by omega
 rw [hs2]
 refine aa (akR (by omega)) ?_
 refine aa (dt (by omega)) ?_
 exact ap ⟨(), rfl, h.to⟩
theorem dc (w : Nat) : aR w ≤ 2305843009213693951 := by unfold aR; split <;> omega
theorem ahR {w : Nat} (h : cN w = true ∧ br w ≠ 2 ∧ aR w < 2305843009213693951) : aZ w 0 = some (aR w + 1 + 2305843009213693952) := if_pos h
theorem KD {w : Nat} (h : ¬ (cN w = true ∧ br w ≠ 2 ∧ aR w < 2305843009213693951)) : aZ w 0 = none := if_neg h
theorem ahT {w : Nat} (h : br w = 1) : aZ w 1 = some (aR w) := if_pos h
theorem ahS {w : Nat} (h : ¬ br w = 1) : aZ w 1 = none := if_neg h
theorem ahV {w : Nat} (h : br w = 0) : aZ w 2 = some (aR w + 4611686018427387904) := if_pos h
theorem ahU {w : Nat} (h : ¬ br w = 0) : aZ w 2 = none := if_neg h
theorem V8 (w : Nat) (hw : w < 18446744073709551616) : Sp lE [vu w] emp (fun _ : Unit => BC (aZ w 0)) (fun _ => emp) := by
 refine av fun R H h => ?_
 refine aw (fun r => HK _ H) ?_
 have hcl := dc w
 refine af (by assumption) (sV w) fun _ _ _ => ?_
 refine aa (wB) ?_
 by_cases hr : cN w = true
 ·rw [hr, Bool.not_true]
  with_reducible repeat refine gh ?_
  refine af (by assumption) (je w hw) fun _ _ _ => ?_
  refine aa (CW (dJ)) ?_
  by_cases hs : br w = 2
  ·rw [beq_iff_eq.2 hs]
   with_reducible repeat refine gh ?_
   refine bH (fun _ => ?_) (fun hc => by cases hc)
   exact ap ⟨(), by rw [KD (fun h => h.2.1 hs)]; rfl, ae.to (by assumption)⟩
  ·rw [beq_eq_false_iff_ne.2 hs]
   with_reducible repeat refine gh ?_
   refine af (by assumption) (ft w hw) fun _ _ _ => ?_
   refine aa (CW (dJ)) ?_
   with_reducible repeat refine gh ?_
   refine bH (fun hc => ?_) (fun hc => ?_)
   ·have hc : (aR w : Int) = 2305843009213693951 := by simpa using hc
    exact ap ⟨(), by rw [KD (fun h => by have := h.2.2; omega)]; rfl, ae.to (by assumption)⟩
   ·have hc : ¬ (aR w : Int) = 2305843009213693951 := by simpa using hc
    have ht := ahR (w := w) ⟨hr, hs, by omega⟩
    refine af (by assumption) (ft w hw) fun _ _ _ => ?_
    refine aa (dt (b := 1) (by omega)) ?_
    refine af (by assumption) (wD (aR w + 1) 1 (by omega) (by omega)) fun _ _ _ => ?_
    refine aa rfl ?_
    refine aa rfl ?_
    refine ap ⟨(), ?_, ae.to (by assumption)⟩
    rw [ht]
    simp [BC]
    omega
 ·have hr : cN w = false := by simpa using hr
  rw [hr, Bool.not_false]
  with_reducible repeat refine gh ?_
  refine bH (fun _ => ?_) (fun hc => by cases hc)
  exact ap ⟨(), by rw [KD (fun h => by rw [hr] at h; cases h.1)]; rfl, ae.to (by assumption)⟩
theorem V9 (w : Nat) (hw : w < 18446744073709551616) : Sp lF [vu w] emp (fun _ : Unit => BC (aZ w 1)) (fun _ => emp) := by
 refine av fun R H h => ?_
 refine aw (fun r => HM _ H) ?_
 have hcl := dc w
 refine af (by assumption) (je w hw) fun _ _ _ => ?_
 refine aa (qg) ?_
 refine bH (fun hc => ?_) (fun hc => ?_)
 ·have hc : ¬ br w = 1 := by simpa using hc
  exact ap ⟨(), by rw [ahS hc]; rfl, ae.to (by assumption)⟩
 ·have hc : br w = 1 := by simpa using hc
  refine af (by assumption) (ft w hw) fun _ _ _ => ?_
  refine af (by assumption) (wD (aR w) 0 (by omega) (by omega)) fun _ _ _ => ?_
  refine aa rfl ?_
  refine aa rfl ?_
  exact ap ⟨(), by rw [ahT hc]; simp [BC], ae.to (by assumption)⟩
theorem Wa (w : Nat) (hw : w < 18446744073709551616) : Sp lG [vu w] emp (fun _ : Unit => BC (aZ w 2)) (fun _ => emp) := by
 refine av fun R H h => ?_
 refine aw (fun r => HN _ H) ?_
 have hcl := dc w
 refine af (by assumption) (je w hw) fun _ _ _ => ?_
 refine aa (qg) ?_
 refine bH (fun hc => ?_) (fun hc => ?_)
 ·have hc : ¬ br w = 0 := by simpa using hc
  exact ap ⟨(), by rw [ahU hc]; rfl, ae.to (by assumption)⟩
 ·have hc : br w = 0 := by simpa using hc
  refine af (by assumption) (ft w hw) fun _ _ _ => ?_
  refine af (by assumption) (wD (aR w) 2 (by omega) (by omega)) fun _ _ _ => ?_
  refine aa rfl ?_
  refine aa rfl ?_
  refine ap ⟨(), ?_, ae.to (by assumption)⟩
  rw [ahV hc]
  simp [BC]
  omega
theorem Ny (w how : Nat) (hw : w < 18446744073709551616) (hh : how < 3) : Sp nN [vu w, vi (how : Int)] emp (fun _ : Unit => BC (aZ w how)) (fun _ => emp) := by
 refine av fun R H h => ?_
 refine aw (fun r => C4 _ _ H) ?_
 have hcl := dc w
 refine af (by assumption) (mZ w hw) fun _ H1 h1 => ?_
 refine aa rfl ?_
 refine aa rfl ?_
 refine aa rfl ?_
 refine ag (vS _ _ _ _ _ _ H1) ?_
 refine aa (wB) ?_
 refine bH (fun hc => ?_) (fun hc => ?_)
 ·have hc : cN w = false := by simpa using hc
  have : aZ w how = none := by
   match how, hh with
   | 0, _ => simp [aZ, hc]
   | 1, _ => simp [aZ, br, hc]
   | 2, _ => simp [aZ, br, hc]
  exact ap ⟨(), by rw [this]; rfl, ae.to (by assumption)⟩
 ·have hr : cN w = true := by simpa using hc
  match how, hh with
  | 0, _ =>
   refine aa (bp rfl) ?_
   with_reducible repeat refine gh ?_
   refine aa (CW (qg)) ?_
   with_reducible repeat refine gh ?_
   by_cases hs : br w = 2
   ·rw [bne_eq_false_iff_eq.2 hs]
    with_reducible repeat refine gh ?_
    refine bH (fun hc => by cases hc) (fun _ => ?_)
    refine aa (aS ?_) ?_
    ·omega
    with_reducible repeat refine gh ?_
    refine bH (fun hc => by cases hc) (fun _ => ?_)
    refine aa (aS ?_) ?_
    ·omega
    with_reducible repeat refine gh ?_
    refine bH (fun hc => by cases hc) (fun _ => ?_)
    refine ag (fJ _ _ H1) ?_
    exact ap ⟨(), by rw [KD (fun h => h.2.1 hs)]; rfl, ae.to (by assumption)⟩
   ·rw [bne_iff_ne.2 hs]
    with_reducible repeat refine gh ?_
    refine aa (CW (qf)) ?_
    with_reducible repeat refine gh ?_
    refine bH (fun hc => ?_) (fun hc => ?_)
    ·have hc : (aR w : Int) < 2305843009213693951 := by simpa using hc
     have ht := ahR (w := w) ⟨hr, hs, by omega⟩
     refine aa (dt (b := 1) (by omega)) ?_
     refine af (by assumption) (BL (aR w + 1) 1 (by omega) (by omega)) fun _ _ _ => ?_
     refine aa rfl ?_
     refine aa rfl ?_
     refine ap ⟨(), ?_, ae.to (by assumption)⟩
     rw [ht]
     simp [BC]
     omega
    ·have hc : ¬ (aR w : Int) < 2305843009213693951 := by simpa using hc
     refine aa (aS ?_) ?_
     ·omega
     with_reducible repeat refine gh ?_
     refine bH (fun hc => by cases hc) (fun _ => ?_)
     refine aa (aS ?_) ?_
     ·omega
     with_reducible repeat refine gh ?_
     refine bH (fun hc => by cases hc) (fun _ => ?_)
     refine ag (fJ _ _ H1) ?_
     exact ap ⟨(), by rw [KD (fun h => by have := h.2.2; omega)]; rfl, ae.to (by assumption)⟩
  | 1, _ =>
   refine aa (aS ?_) ?_
   ·omega
   with_reducible repeat refine gh ?_
   refine bH (fun hc => by cases hc) (fun _ => ?_)
   refine aa (bp rfl) ?_
   with_reducible repeat refine gh ?_
   refine aa (CW (dJ)) ?_
   with_reducible repeat refine gh ?_
   refine bH (fun hc => ?_) (fun hc => ?_)
   ·have hc : br w = 1 := by simpa using hc
    refine af (by assumption) (BL (aR w) 0 (by omega) (by omega)) fun _ _ _ => ?_
    refine aa rfl ?_
    refine aa rfl ?_
    exact ap ⟨(), by rw [ahT hc]; simp [BC], ae.to (by assumption)⟩
   ·have hc : ¬ br w = 1 := by simpa using hc
    refine aa (aS ?_) ?_
    ·omega
    with_reducible repeat refine gh ?_
    refine bH (fun hc => by cases hc) (fun _ => ?_)
    refine ag (fJ _ _ H1) ?_
    exact ap ⟨(), by rw [ahS hc]; rfl, ae.to (by assumption)⟩
  | 2, _ =>
   refine aa (aS ?_) ?_
   ·omega
   with_reducible repeat refine gh ?_
   refine bH (fun hc => by cases hc) (fun _ => ?_)
   refine aa (aS ?_) ?_
   ·omega
   with_reducible repeat refine gh ?_
   refine bH (fun hc => by cases hc) (fun _ => ?_)
   refine aa (bp rfl) ?_
   with_reducible repeat refine gh ?_
   refine aa (CW (dJ)) ?_
   with_reducible repeat refine gh ?_
   refine bH (fun hc => ?_) (fun hc => ?_)
   ·have hc : br w = 0 := by simpa using hc
    refine af (by assumption) (BL (aR w) 2 (by omega) (by omega)) fun _ _ _ => ?_
    refine aa rfl ?_
    refine aa rfl ?_
    refine ap ⟨(), ?_, ae.to (by assumption)⟩
    rw [ahV hc]
    simp [BC]
    omega
   ·have hc : ¬ br w = 0 := by simpa using hc
    refine ag (fJ _ _ H1) ?_
    exact ap ⟨(), by rw [ahU hc]; rfl, ae.to (by assumption)⟩
theorem xw (s : Int) : Sp jm [vi s] emp (fun _ : Unit => dw (8, s, 0)) (fun _ => emp) := by
 refine av fun R H h => ?_
 refine aw (fun r => Cn _ H) ?_
 repeat (first | refine aG ‹_› fun _ _ _ => ?_ | refine aO ‹_› fun _ _ _ => ?_ | refine bR ‹_› fun _ _ _ => ?_ | refine aL ‹_› ?_ | refine am ‹_› ac rfl ?_ | refine am ‹_› ah rfl ?_ | refine aW ‹_› ac ?_ | refine aW ‹_› ah ?_ | refine aI ac ?_ | refine aI ah ?_ | refine aE ‹_› rfl ?_ | refine aK ‹_› ac rfl rfl fun _ _ => ?_ | refine aK ‹_› ah rfl rfl fun _ _ => ?_ | refine bX ‹_› rfl rfl fun _ _ => ?_ | refine dO ?_ | refine jH ‹_› fun _ _ _ => ?_ | refine aP ?_ | refine aA ‹_› ‹_› rfl ?_ | refine bg ‹_› ‹_› rfl ?_ | refine b6 ?_)
 exact ap ⟨(), rfl, ae.to (by assumption)⟩
theorem sS (s i : Int) : Sp iw [vi s, vi i] emp (fun _ : Unit => dw (10, s, i)) (fun _ => emp) := by
 refine av fun R H h => ?_
 refine aw (fun r => Da _ _ H) ?_
 repeat (first | refine aG ‹_› fun _ _ _ => ?_ | refine aO ‹_› fun _ _ _ => ?_ | refine bR ‹_› fun _ _ _ => ?_ | refine aL ‹_› ?_ | refine am ‹_› ac rfl ?_ | refine am ‹_› ah rfl ?_ | refine aW ‹_› ac ?_ | refine aW ‹_› ah ?_ | refine aI ac ?_ | refine aI ah ?_ | refine aE ‹_› rfl ?_ | refine aK ‹_› ac rfl rfl fun _ _ => ?_ | refine aK ‹_› ah rfl rfl fun _ _ => ?_ | refine bX ‹_› rfl rfl fun _ _ => ?_ | refine dO ?_ | refine jH ‹_› fun _ _ _ => ?_ | refine aP ?_ | refine aA ‹_› ‹_› rfl ?_ | refine bg ‹_› ‹_› rfl ?_ | refine b6 ?_)
 exact ap ⟨(), rfl, ae.to (by assumption)⟩
theorem cw (k a b : Int) : Sp bB [vi k, vi a, vi b] emp (fun _ : Unit => dw (k, a, b)) (fun _ => emp) := by
 refine av fun R H h => ?_
 refine aw (fun r => Nz _ _ _ H) ?_
 repeat (first | refine aG ‹_› fun _ _ _ => ?_ | refine aO ‹_› fun _ _ _ => ?_ | refine bR ‹_› fun _ _ _ => ?_ | refine aL ‹_› ?_ | refine am ‹_› ac rfl ?_ | refine am ‹_› ah rfl ?_ | refine aW ‹_› ac ?_ | refine aW ‹_› ah ?_ | refine aI ac ?_ | refine aI ah ?_ | refine aE ‹_› rfl ?_ | refine aK ‹_› ac rfl rfl fun _ _ => ?_ | refine aK ‹_› ah rfl rfl fun _ _ => ?_ | refine bX ‹_› rfl rfl fun _ _ => ?_ | refine dO ?_ | refine jH ‹_› fun _ _ _ => ?_ | refine aP ?_ | refine aA ‹_› ‹_› rfl ?_ | refine bg ‹_› ‹_› rfl ?_ | refine b6 ?_)
 exact ap ⟨(), rfl, ae.to (by assumption)⟩
def tab (t m : Nat) (sh sl : Nat) : SP := blk t (.cells false [vp m, vi sh, vi sl])
section
variable (t m : Nat) (sh sl : Nat) (μ : Mu) (who s i : Int)
theorem Ky : Sp fV [vp t] (tab t m sh sl) (fun _ : Unit => vi sl) (fun _ => tab t m sh sl) := by
 refine av fun R H h => ?_
 refine aw (fun r => pV _ H) ?_
 unfold tab at h ⊢
 repeat (first | refine aG ‹_› fun _ _ _ => ?_ | refine aO ‹_› fun _ _ _ => ?_ | refine bR ‹_› fun _ _ _ => ?_ | refine aL ‹_› ?_ | refine am ‹_› ac rfl ?_ | refine am ‹_› ah rfl ?_ | refine aW ‹_› ac ?_ | refine aW ‹_› ah ?_ | refine aI ac ?_ | refine aI ah ?_ | refine aE ‹_› rfl ?_ | refine aK ‹_› ac rfl rfl fun _ _ => ?_ | refine aK ‹_› ah rfl rfl fun _ _ => ?_ | refine bX ‹_› rfl rfl fun _ _ => ?_ | refine dO ?_ | refine jH ‹_› fun _ _ _ => ?_ | refine aP ?_ | refine aA ‹_› ‹_› rfl ?_ | refine bg ‹_› ‹_› rfl ?_ | refine b6 ?_)
 exact ap ⟨(), rfl, ae.to (by assumption)⟩
theorem OG (hE : μ.N < 1099511627000) : Sp gJ [vp t, vi who, vi s] (tab t m sh sl * bd m μ) (fun _ : Unit => vb (decide (μ.V (8, s, 0) = 0))) (fun _ => tab t m sh sl * bd m (μ.swp who (8, s, 0) 0 1)) := by
 refine av fun R H h => ?_
 refine aw (fun r => rg _ _ _ H) ?_
 unfold tab at h ⊢
 repeat (first | refine aG ‹_› fun _ _ _ => ?_ | refine aO ‹_› fun _ _ _ => ?_ | refine bR ‹_› fun _ _ _ => ?_ | refine aL ‹_› ?_ | refine am ‹_› ac rfl ?_ | refine am ‹_› ah rfl ?_ | refine aW ‹_› ac ?_ | refine aW ‹_› ah ?_ | refine aI ac ?_ | refine aI ah ?_ | refine aE ‹_› rfl ?_ | refine aK ‹_› ac rfl rfl fun _ _ => ?_ | refine aK ‹_› ah rfl rfl fun _ _ => ?_ | refine bX ‹_› rfl rfl fun _ _ => ?_ | refine dO ?_ | refine jH ‹_› fun _ _ _ => ?_ | refine aP ?_ | refine aA ‹_› ‹_› rfl ?_ | refine bg ‹_› ‹_› rfl ?_ | refine b6 ?_)
 refine af (by assumption) (xw s) fun _ _ _ => ?_
 repeat (first | refine aG ‹_› fun _ _ _ => ?_ | refine aO ‹_› fun _ _ _ => ?_ | refine bR ‹_› fun _ _ _ => ?_ | refine aL ‹_› ?_ | refine am ‹_› ac rfl ?_ | refine am ‹_› ah rfl ?_ | refine aW ‹_› ac ?_ | refine aW ‹_› ah ?_ | refine aI ac ?_ | refine aI ah ?_ | refine aE ‹_› rfl ?_ | refine aK ‹_› ac rfl rfl fun _ _ => ?_ | refine aK ‹_› ah rfl rfl fun _ _ => ?_ | refine bX ‹_› rfl rfl fun _ _ => ?_ | refine dO ?_ | refine jH ‹_› fun _ _ _ => ?_ | refine aP ?_ | refine aA ‹_› ‹_› rfl ?_ | refine bg ‹_› ‹_› rfl ?_ | refine b6 ?_)
 refine af (by assumption) (Np m μ who (8, s, 0) 0 1 (by omega)) fun _ _ _ => ?_
 exact ap ⟨(), rfl, ae.to (by assumption)⟩
theorem HF (hE : μ.N < 1099511627000) : Sp fj [vp t, vi who, vi s] (tab t m sh sl * bd m μ) (fun _ : Unit => .tuple #[]) (fun _ => tab t m sh sl * bd m ((μ.acc who 2 (8, s, 0)).put (8, s, 0) 0)) := by
 refine av fun R H h => ?_
 refine aw (fun r => oL _ _ _ H) ?_
 unfold tab at h ⊢
 repeat (first | refine aG ‹_› fun _ _ _ => ?_ | refine aO ‹_› fun _ _ _ => ?_ | refine bR ‹_› fun _ _ _ => ?_ | refine aL ‹_› ?_ | refine am ‹_› ac rfl ?_ | refine am ‹_› ah rfl ?_ | refine aW ‹_› ac ?_ | refine aW ‹_› ah ?_ | refine aI ac ?_ | refine aI ah ?_ | refine aE ‹_› rfl ?_ | refine aK ‹_› ac rfl rfl fun _ _ => ?_ | refine aK ‹_› ah rfl rfl fun _ _ => ?_ | refine bX ‹_› rfl rfl fun _ _ => ?_ | refine dO ?_ | refine jH ‹_› fun _ _ _ => ?_ | refine aP ?_ | refine aA ‹_› ‹_› rfl ?_ | refine bg ‹_› ‹_› rfl ?_ | refine b6 ?_)
 refine af (by assumption) (xw s) fun _ _ _ => ?_
 repeat (first | refine aG ‹_› fun _ _ _ => ?_ | refine aO ‹_› fun _ _ _ => ?_ | refine bR ‹_› fun _ _ _ => ?_ | refine aL ‹_› ?_ | refine am ‹_› ac rfl ?_ | refine am ‹_› ah rfl ?_ | refine aW ‹_› ac ?_ | refine aW ‹_› ah ?_ | refine aI ac ?_ | refine aI ah ?_ | refine aE ‹_› rfl ?_ | refine aK ‹_› ac rfl rfl fun _ _ => ?_ | refine aK ‹_› ah rfl rfl fun _ _ => ?_ | refine bX ‹_› rfl rfl fun _ _ => ?_ | refine dO ?_ | refine jH ‹_› fun _ _ _ => ?_ | refine aP ?_ | refine aA ‹_› ‹_› rfl ?_ | refine bg ‹_› ‹_› rfl ?_ | refine b6 ?_)
 refine af (by assumption) (ud m μ who (8, s, 0) 0 (by omega)) fun _ _ _ => ?_
 exact ap ⟨(), rfl, ae.to (by assumption)⟩
theorem Kv (hE : μ.N < 1099511627000) : Sp fT [vp t, vi who, vi s, vi i] (tab t m sh sl * bd m μ) (fun _ : Unit => .tuple #[]) (fun _ => tab t m sh sl * bd m ((μ.acc who 2 (10, s, i)).put (10, s, i) 0)) := by
 refine av fun R H h => ?_
 refine aw (fun r => pT _ _ _ _ H) ?_
 unfold tab at h ⊢
 repeat (first | refine aG ‹_› fun _ _ _ => ?_ | refine aO ‹_› fun _ _ _ => ?_ | refine bR ‹_› fun _ _ _ => ?_ | refine aL ‹_› ?_ | refine am ‹_› ac rfl ?_ | refine am ‹_› ah rfl ?_ | refine aW ‹_› ac ?_ | refine aW ‹_› ah ?_ | refine aI ac ?_ | refine aI ah ?_ | refine aE ‹_› rfl ?_ | refine aK ‹_› ac rfl rfl fun _ _ => ?_ | refine aK ‹_› ah rfl rfl fun _ _ => ?_ | refine bX ‹_› rfl rfl fun _ _ => ?_ | refine dO ?_ | refine jH ‹_› fun _ _ _ => ?_ | refine aP ?_ | refine aA ‹_› ‹_› rfl ?_ | refine bg ‹_› ‹_› rfl ?_ | refine b6 ?_)
 refine af (by assumption) (sS s i) fun _ _ _ => ?_
 repeat (first | refine aG ‹_› fun _ _ _ => ?_ | refine aO ‹_› fun _ _ _ => ?_ | refine bR ‹_› fun _ _ _ => ?_ | refine aL ‹_› ?_ | refine am ‹_› ac rfl ?_ | refine am ‹_› ah rfl ?_ | refine aW ‹_› ac ?_ | refine aW ‹_› ah ?_ | refine aI ac ?_ | refine aI ah ?_ | refine aE ‹_› rfl ?_ | refine aK ‹_› ac rfl rfl fun _ _ => ?_ | refine aK ‹_› ah rfl rfl fun _ _ => ?_ | refine bX ‹_› rfl rfl fun _ _ => ?_ | refine dO ?_ | refine jH ‹_› fun _ _ _ => ?_ | refine aP ?_ | refine aA ‹_› ‹_› rfl ?_ | refine bg ‹_› ‹_› rfl ?_ | refine b6 ?_)
 refine af (by assumption) (ud m μ who (10, s, i) 0 (by omega)) fun _ _ _ => ?_
 exact ap ⟨(), rfl, ae.to (by assumption)⟩
theorem abI (hE : μ.N < 1099511627000) : Sp i6 [vp t, vi who, vi s] (tab t m sh sl * bi m μ) (fun _ : Unit => vb (decide (μ.V (8, s, 0) = 0))) (fun _ => tab t m sh sl * bi m (μ.swp who (8, s, 0) 0 1)) := by
 refine av fun R H h => ?_
 refine aw (fun r => uw _ _ _ H) ?_
 unfold tab at h ⊢
 repeat (first | refine aG ‹_› fun _ _ _ => ?_ | refine aO ‹_› fun _ _ _ => ?_ | refine bR ‹_› fun _ _ _ => ?_ | refine aL ‹_› ?_ | refine am ‹_› ac rfl ?_ | refine am ‹_› ah rfl ?_ | refine aW ‹_› ac ?_ | refine aW ‹_› ah ?_ | refine aI ac ?_ | refine aI ah ?_ | refine aE ‹_› rfl ?_ | refine aK ‹_› ac rfl rfl fun _ _ => ?_ | refine aK ‹_› ah rfl rfl fun _ _ => ?_ | refine bX ‹_› rfl rfl fun _ _ => ?_ | refine dO ?_ | refine jH ‹_› fun _ _ _ => ?_ | refine aP ?_ | refine aA ‹_› ‹_› rfl ?_ | refine bg ‹_› ‹_› rfl ?_ | refine b6 ?_)
 refine af (by assumption) (cw 8 s 0) fun _ _ _ => ?_
 repeat (first | refine aG ‹_› fun _ _ _ => ?_ | refine aO ‹_› fun _ _ _ => ?_ | refine bR ‹_› fun _ _ _ => ?_ | refine aL ‹_› ?_ | refine am ‹_› ac rfl ?_ | refine am ‹_› ah rfl ?_ | refine aW ‹_› ac ?_ | refine aW ‹_› ah ?_ | refine aI ac ?_ | refine aI ah ?_ | refine aE ‹_› rfl ?_ | refine aK ‹_› ac rfl rfl fun _ _ => ?_ | refine aK ‹_› ah rfl rfl fun _ _ => ?_ | refine bX ‹_› rfl rfl fun _ _ => ?_ | refine dO ?_ | refine jH ‹_› fun _ _ _ => ?_ | refine aP ?_ | refine aA ‹_› ‹_› rfl ?_ | refine bg ‹_› ‹_› rfl ?_ | refine b6 ?_)
 refine af (by assumption) (BT m μ who (8, s, 0) 0 1 (by omega)) fun _ _ _ => ?_
 exact ap ⟨(), rfl, ae.to (by assumption)⟩
theorem NA (hE : μ.N < 1099511627000) : Sp gI [vp t, vi who, vi s] (tab t m sh sl * bi m μ) (fun _ : Unit => .tuple #[]) (fun _ => tab t m sh sl * bi m ((μ.acc who 2 (8, s, 0)).put (8, s, 0) 0)) := by
 refine av fun R H h => ?_
 refine aw (fun r => re _ _ _ H) ?_
 unfold tab at h ⊢
 repeat (first | refine aG ‹_› fun _ _ _ => ?_ | refine aO ‹_› fun _ _ _ => ?_ | refine bR ‹_› fun _ _ _ => ?_ | refine aL ‹_› ?_ | refine am ‹_› ac rfl ?_ | refine am ‹_› ah rfl ?_ | refine aW ‹_› ac ?_ | refine aW ‹_› ah ?_ | refine aI ac ?_ | refine aI ah ?_ | refine aE ‹_› rfl ?_ | refine aK ‹_› ac rfl rfl fun _ _ => ?_ | refine aK ‹_› ah rfl rfl fun _ _ => ?_ | refine bX ‹_› rfl rfl fun _ _ => ?_ | refine dO ?_ | refine jH ‹_› fun _ _ _ => ?_ | refine aP ?_ | refine aA ‹_› ‹_› rfl ?_ | refine bg ‹_› ‹_› rfl ?_ | refine b6 ?_)
 refine af (by assumption) (cw 8 s 0) fun _ _ _ => ?_
 repeat (first | refine aG ‹_› fun _ _ _ => ?_ | refine aO ‹_› fun _ _ _ => ?_ | refine bR ‹_› fun _ _ _ => ?_ | refine aL ‹_› ?_ | refine am ‹_› ac rfl ?_ | refine am ‹_› ah rfl ?_ | refine aW ‹_› ac ?_ | refine aW ‹_› ah ?_ | refine aI ac ?_ | refine aI ah ?_ | refine aE ‹_› rfl ?_ | refine aK ‹_› ac rfl rfl fun _ _ => ?_ | refine aK ‹_› ah rfl rfl fun _ _ => ?_ | refine bX ‹_› rfl rfl fun _ _ => ?_ | refine dO ?_ | refine jH ‹_› fun _ _ _ => ?_ | refine aP ?_ | refine aA ‹_› ‹_› rfl ?_ | refine bg ‹_› ‹_› rfl ?_ | refine b6 ?_)
 refine af (by assumption) (na m μ who (8, s, 0) 0 (by omega)) fun _ _ _ => ?_
 exact ap ⟨(), rfl, ae.to (by assumption)⟩
theorem UW (hE : μ.N < 1099511627000) : Sp iu [vp t, vi who, vi s, vi i] (tab t m sh sl * bi m μ) (fun _ : Unit => .tuple #[]) (fun _ => tab t m sh sl * bi m ((μ.acc who 2 (10, s, i)).put (10, s, i) 0)) := by
 refine av fun R H h => ?_
 refine aw (fun r => sH _ _ _ _ H) ?_
 unfold tab at h ⊢
 repeat (first | refine aG ‹_› fun _ _ _ => ?_ | refine aO ‹_› fun _ _ _ => ?_ | refine bR ‹_› fun _ _ _ => ?_ | refine aL ‹_› ?_ | refine am ‹_› ac rfl ?_ | refine am ‹_› ah rfl ?_ | refine aW ‹_› ac ?_ | refine aW ‹_› ah ?_ | refine aI ac ?_ | refine aI ah ?_ | refine aE ‹_› rfl ?_ | refine aK ‹_› ac rfl rfl fun _ _ => ?_ | refine aK ‹_› ah rfl rfl fun _ _ => ?_ | refine bX ‹_› rfl rfl fun _ _ => ?_ | refine dO ?_ | refine jH ‹_› fun _ _ _ => ?_ | refine aP ?_ | refine aA ‹_› ‹_› rfl ?_ | refine bg ‹_› ‹_› rfl ?_ | refine b6 ?_)
 refine af (by assumption) (cw 10 s i) fun _ _ _ => ?_
 repeat (first | refine aG ‹_› fun _ _ _ => ?_ | refine aO ‹_› fun _ _ _ => ?_ | refine bR ‹_› fun _ _ _ => ?_ | refine aL ‹_› ?_ | refine am ‹_› ac rfl ?_ | refine am ‹_› ah rfl ?_ | refine aW ‹_› ac ?_ | refine aW ‹_› ah ?_ | refine aI ac ?_ | refine aI ah ?_ | refine aE ‹_› rfl ?_ | refine aK ‹_› ac rfl rfl fun _ _ => ?_ | refine aK ‹_› ah rfl rfl fun _ _ => ?_ | refine bX ‹_› rfl rfl fun _ _ => ?_ | refine dO ?_ | refine jH ‹_› fun _ _ _ => ?_ | refine aP ?_ | refine aA ‹_› ‹_› rfl ?_ | refine bg ‹_› ‹_› rfl ?_ | refine b6 ?_)
 refine af (by assumption) (na m μ who (10, s, i) 0 (by omega)) fun _ _ _ => ?_
 exact ap ⟨(), rfl, ae.to (by assumption)⟩
def lO (v : Nat) : Value := if v = 0 then .tuple #[vi 0, vi 0, vb false] else .tuple #[vi ((v / 4294967296 : Nat) - 1), vi (v % 4294967296 : Nat), vb true]
theorem Kx (hE : μ.N < 1099511627000) (hV : μ.V (10, s, i) < 18446744073709551616) :
 Sp gK [vp t, vi who, vi s, vi i] (tab t m sh sl * bd m μ) (fun _ : Unit => lO (μ.V (10, s, i))) (fun _ => tab t m sh sl * bd m (μ.acc who 1 (10, s, i))) := by
 refine av fun R H h => ?_
 refine aw (fun r => rh _ _ _ _ H) ?_
 unfold tab at h ⊢
 repeat (first | refine aG ‹_› fun _ _ _ => ?_ | refine aO ‹_› fun _ _ _ => ?_ | refine bR ‹_› fun _ _ _ => ?_ | refine aL ‹_› ?_ | refine am ‹_› ac rfl ?_ | refine am ‹_› ah rfl ?_ | refine aW ‹_› ac ?_ | refine aW ‹_› ah ?_ | refine aI ac ?_ | refine aI ah ?_ | refine aE ‹_› rfl ?_ | refine aK ‹_› ac rfl rfl fun _ _ => ?_ | refine aK ‹_› ah rfl rfl fun _ _ => ?_ | refine bX ‹_› rfl rfl fun _ _ => ?_ | refine dO ?_ | refine jH ‹_› fun _ _ _ => ?_ | refine aP ?_ | refine aA ‹_› ‹_› rfl ?_ | refine bg ‹_› ‹_› rfl ?_ | refine b6 ?_)
 refine af (by assumption) (sS s i) fun _ _ _ => ?_
 repeat (first | refine aG ‹_› fun _ _ _ => ?_ | refine aO ‹_› fun _ _ _ => ?_ | refine bR ‹_› fun _ _ _ => ?_ | refine aL ‹_› ?_ | refine am ‹_› ac rfl ?_ | refine am ‹_› ah rfl ?_ | refine aW ‹_› ac ?_ | refine aW ‹_› ah ?_ | refine aI ac ?_ | refine aI ah ?_ | refine aE ‹_› rfl ?_ | refine aK ‹_› ac rfl rfl fun _ _ => ?_ | refine aK ‹_› ah rfl rfl fun _ _ => ?_ | refine bX ‹_› rfl rfl fun _ _ => ?_ | refine dO ?_ | refine jH ‹_› fun _ _ _ => ?_ | refine aP ?_ | refine aA ‹_› ‹_› rfl ?_ | refine bg ‹_› ‹_› rfl ?_ | refine b6 ?_)
 refine af (by assumption) (BE m μ who (10, s, i) (by omega)) fun _ _ _ => ?_
 refine aa (agZ (b := 0)) ?_
 refine bH (fun hc => ?_) (fun hc => ?_)
 ·have hc : μ.V (10, s, i) = 0 := by simpa using hc
  refine ap ⟨(), by rw [lO, if_pos hc], ae.to (by assumption)⟩
 ·have hc : ¬ μ.V (10, s, i) = 0 := by simpa using hc
  refine aa (ak1) ?_
  refine aa (gc (by omega)) ?_
  refine aa (ba (by omega) (by omega)) ?_
  refine aa (akD hV) ?_
  refine aa (gc (by omega)) ?_
  refine ap ⟨(), by rw [lO, if_neg hc], ae.to (by assumption)⟩
theorem UY (hE : μ.N < 1099511627000) (hV : μ.V (10, s, i) < 18446744073709551616) :
 Sp i7 [vp t, vi who, vi s, vi i] (tab t m sh sl * bi m μ) (fun _ : Unit => lO (μ.V (10, s, i))) (fun _ => tab t m sh sl * bi m (μ.acc who 1 (10, s, i))) := by
 refine av fun R H h => ?_
 refine aw (fun r => ux _ _ _ _ H) ?_
 unfold tab at h ⊢
 repeat (first | refine aG ‹_› fun _ _ _ => ?_ | refine aO ‹_› fun _ _ _ => ?_ | refine bR ‹_› fun _ _ _ => ?_ | refine aL ‹_› ?_ | refine am ‹_› ac rfl ?_ | refine am ‹_› ah rfl ?_ | refine aW ‹_› ac ?_ | refine aW ‹_› ah ?_ | refine aI ac ?_ | refine aI ah ?_ | refine aE ‹_› rfl ?_ | refine aK ‹_› ac rfl rfl fun _ _ => ?_ | refine aK ‹_› ah rfl rfl fun _ _ => ?_ | refine bX ‹_› rfl rfl fun _ _ => ?_ | refine dO ?_ | refine jH ‹_› fun _ _ _ => ?_ | refine aP ?_ | refine aA ‹_› ‹_› rfl ?_ | refine bg ‹_› ‹_› rfl ?_ | refine b6 ?_)
 refine af (by assumption) (cw 10 s i) fun _ _ _ => ?_
 repeat (first | refine aG ‹_› fun _ _ _ => ?_ | refine aO ‹_› fun _ _ _ => ?_ | refine bR ‹_› fun _ _ _ => ?_ | refine aL ‹_› ?_ | refine am ‹_› ac rfl ?_ | refine am ‹_› ah rfl ?_ | refine aW ‹_› ac ?_ | refine aW ‹_› ah ?_ | refine aI ac ?_ | refine aI ah ?_ | refine aE ‹_› rfl ?_ | refine aK ‹_› ac rfl rfl fun _ _ => ?_ | refine aK ‹_› ah rfl rfl fun _ _ => ?_ | refine bX ‹_› rfl rfl fun _ _ => ?_ | refine dO ?_ | refine jH ‹_› fun _ _ _ => ?_ | refine aP ?_ | refine aA ‹_› ‹_› rfl ?_ | refine bg ‹_› ‹_› rfl ?_ | refine b6 ?_)
 refine af (by assumption) (pO m μ who (10, s, i) (by omega)) fun _ _ _ => ?_
 refine aa (agZ (b := 0)) ?_
 refine bH (fun hc => ?_) (fun hc => ?_)
 ·have hc : μ.V (10, s, i) = 0 := by simpa using hc
  refine ap ⟨(), by rw [lO, if_pos hc], ae.to (by assumption)⟩
 ·have hc : ¬ μ.V (10, s, i) = 0 := by simpa using hc
  refine aa (akU hV) ?_
  refine aa (gc (by omega)) ?_
  refine aa (ba (by omega) (by omega)) ?_
  refine aa (akW) ?_
  refine aa (gc (by omega)) ?_
  refine ap ⟨(), by rw [lO, if_neg hc], ae.to (by assumption)⟩
end
def cS (v n : Int) : Int := (v % 18446744073709551616) % n
theorem dM {v n : Int} (h : 0 < n) : 0 ≤ cS v n ∧ cS v n < n := ⟨Int.emod_nonneg _ (by omega), Int.emod_lt_of_pos _ h⟩
theorem b9 (v n : Int) (h0 : 0 < n) (h1 : n < 9223372036854775808) : Sp a9 [vi v, vi n] emp (fun _ : Unit => vi (cS v n)) (fun _ => emp) := by
 refine av fun R H h => ?_
 refine aw (fun r => JO _ _ H) ?_
 have e1 : bJ (some .u64) (vi v) = some (vu (v % 18446744073709551616).toNat) := by
  simp only [bJ]
  rw [CA]
  have : 0 ≤ v % 18446744073709551616 := Int.emod_nonneg _ (by omega)
  show _ = some (Value.int .u64 (((v % 18446744073709551616).toNat : Nat) : Int))
  rw [Int.toNat_of_nonneg this]
 refine aa (e1) ?_
 refine aa (dk (by omega) (by omega)) ?_
 refine aa (iP (by omega)) ?_
 have hm := dM (v := v) h0
 have e2 : (((v % 18446744073709551616).toNat % n.toNat : Nat) : Int) = cS v n := by
  have : 0 ≤ v % 18446744073709551616 := Int.emod_nonneg _ (by omega)
  unfold cS
  rw [Int.natCast_emod, Int.toNat_of_nonneg this, Int.toNat_of_nonneg (by omega)]
 refine aa (gc (by omega)) ?_
 rw [e2]
 exact ap ⟨(), rfl, ae.to (by assumption)⟩
structure f0 where
 sh : Int
 sl : Int
 wk : Int
 wd : Int
 un : Nat
abbrev f0.cells (c : f0) : List Value := [vi c.sh, vi c.sl, vi c.wk, vi c.wd, vu c.un]
structure Cl where
 op : Int
 flow : Int
 a : Int
 b : Int
abbrev Cl.cells (x : Cl) : List Value := [vi x.op, vi x.flow, vi x.a, vi x.b]
instance : Enc Cl.cells 4 := ⟨fun _ => rfl, fun _ => rfl, by omega⟩
structure Sv where
 a : Option Addr
 n : Nat
 c : Nat
abbrev Sv.v (s : Sv) : Value := .slice s.a s.n s.c
abbrev alG (s : Sv) : List Value := [.slice s.a s.n s.c]
instance : Enc alG 1 := ⟨fun _ => rfl, fun _ => rfl, by omega⟩
def dh (c : f0) : Bool := decide (1 ≤ c.sh ∧ c.sh ≤ 4 ∧ 1 ≤ c.sl ∧ c.sl ≤ 4 ∧ 1 ≤ c.wk ∧ c.wk ≤ 6 ∧ 0 ≤ c.wd ∧ c.wd ≤ 40 ∧ 1 ≤ c.un ∧ c.un ≤ 4611686018427387904)
theorem b7 {c : f0} : dh c = true ↔ (1 ≤ c.sh ∧ c.sh ≤ 4 ∧ 1 ≤ c.sl ∧ c.sl ≤ 4 ∧ 1 ≤ c.wk ∧ c.wk ≤ 6 ∧ 0 ≤ c.wd ∧ c.wd ≤ 40 ∧ 1 ≤ c.un ∧ c.un ≤ 4611686018427387904) := by unfold dh; exact decide_eq_true_iff
theorem kq {c : f0} (h : ¬ (1 ≤ c.sh ∧ c.sh ≤ 4 ∧ 1 ≤ c.sl ∧ c.sl ≤ 4 ∧ 1 ≤ c.wk ∧ c.wk ≤ 6 ∧ 0 ≤ c.wd ∧ c.wd ≤ 40 ∧ 1 ≤ c.un ∧ c.un ≤ 4611686018427387904)) : dh c = false := by unfold dh; exact decide_eq_false h
theorem fA (x a b : Int) : Sp dX [vi x, vi a, vi b] emp (fun _ : Unit => vb (decide (a ≤ x ∧ x ≤ b))) (fun _ => emp) := by
 refine av fun R H h => ?_
 refine aw (fun r => ye _ _ _ H) ?_
 by_cases h1 : a ≤ x
 ·refine aa (wU h1) ?_
  with_reducible repeat refine gg ?_
  by_cases h2 : x ≤ b
  ·refine aa (QX h2) ?_
   with_reducible repeat refine gg ?_
   rw [decide_eq_true ⟨h1, h2⟩]
   exact ap ⟨(), rfl, ae.to (by assumption)⟩
  ·refine aa (QW h2) ?_
   with_reducible repeat refine gg ?_
   rw [decide_eq_false (fun h => h2 h.2)]
   exact ap ⟨(), rfl, ae.to (by assumption)⟩
 ·refine aa (ol h1) ?_
  with_reducible repeat refine gg ?_
  rw [decide_eq_false (fun h => h1 h.1)]
  exact ap ⟨(), rfl, ae.to (by assumption)⟩
theorem Jx (c : f0) : Sp ma [.agg (f0.cells c).toArray] emp (fun _ : Unit => vb (dh c)) (fun _ => emp) := by
 refine av fun R H h => ?_
 refine aw (fun r => BA _ H) ?_
 refine aG h fun b H1 h1 => ?_
 refine am h1 ah rfl ?_
 refine af h1 (fA c.sh 1 4) fun _ K0 k0 => ?_
 by_cases g0 : (1 : Int) ≤ c.sh ∧ c.sh ≤ 4
 case neg =>
  rw [decide_eq_false g0]
  with_reducible repeat refine gg ?_
  rw [kq (by omega)]
  exact ap ⟨(), rfl, ae.to (by assumption)⟩
 rw [decide_eq_true g0]
 with_reducible repeat refine gg ?_
 refine am k0 ah rfl ?_
 with_reducible repeat refine gg ?_
 refine af k0 (fA c.sl 1 4) fun _ K1 k1 => ?_
 by_cases g1 : (1 : Int) ≤ c.sl ∧ c.sl ≤ 4
 case neg =>
  rw [decide_eq_false g1]
  with_reducible repeat refine gg ?_
  rw [kq (by omega)]
  exact ap ⟨(), rfl, ae.to (by assumption)⟩
 rw [decide_eq_true g1]
 with_reducible repeat refine gg ?_
 refine am k1 ah rfl ?_
 with_reducible repeat refine gg ?_
 refine af k1 (fA c.wk 1 6) fun _ K2 k2 => ?_
 by_cases g2 : (1 : Int) ≤ c.wk ∧ c.wk ≤ 6
 case neg =>
  rw [decide_eq_false g2]
  with_reducible repeat refine gg ?_
  rw [kq (by omega)]
  exact ap ⟨(), rfl, ae.to (by assumption)⟩
 rw [decide_eq_true g2]
 with_reducible repeat refine gg ?_
 refine am k2 ah rfl ?_
 with_reducible repeat refine gg ?_
 refine af k2 (fA c.wd 0 40) fun _ K3 k3 => ?_
 by_cases g3 : (0 : Int) ≤ c.wd ∧ c.wd ≤ 40
 case neg =>
  rw [decide_eq_false g3]
  with_reducible repeat refine gg ?_
  rw [kq (by omega)]
  exact ap ⟨(), rfl, ae.to (by assumption)⟩
 rw [decide_eq_true g3]
 with_reducible repeat refine gg ?_
 refine am k3 ah rfl ?_
 with_reducible repeat refine gg ?_
 by_cases g4 : (1 : Int) ≤ c.un
 case neg =>
  refine aa (ol g4) ?_
  with_reducible repeat refine gg ?_
  rw [kq (by omega)]
  exact ap ⟨(), rfl, ae.to (by assumption)⟩
 refine aa (wU g4) ?_
 with_reducible repeat refine gg ?_
 refine am k3 ah rfl ?_
 with_reducible repeat refine gg ?_
 by_cases g5 : (c.un : Int) ≤ 4611686018427387904
 case neg =>
  refine aa (QW g5) ?_
  with_reducible repeat refine gg ?_
  rw [kq (by omega)]
  exact ap ⟨(), rfl, ae.to (by assumption)⟩
 refine aa (QX g5) ?_
 with_reducible repeat refine gg ?_
 rw [b7.2 (by omega)]
 exact ap ⟨(), rfl, ae.to (by assumption)⟩
theorem Cz (w : Int) : Sp nO [vi w] emp (fun x : Int => vi x) (fun _ => emp) := by
 refine av fun R H h => ?_
 refine aw (fun r => Db _ H) ?_
 refine aa (jS) ?_
 refine aa (jT) ?_
 exact ap ⟨_, rfl, h⟩
theorem V7 (w : Int) : Sp pG [vi w] emp (fun b : Nat => vp b) (fun _ => emp) := by
 refine av fun R H h => ?_
 refine aw (fun r => HJ _ H) ?_
 refine af h (Cz w) fun x H1 h1 => ?_
 refine bR h1 fun mb H2 h2 => ?_
 refine KF rfl ?_
 refine aG h2 fun b H3 h3 => ?_
 exact ap ⟨b, rfl, h3.to⟩
theorem ZX : Sp sg [] emp (fun b : Nat => vp b) (fun _ => emp) := by
 refine av fun R H h => ?_
 refine aw (fun r => Jg H) ?_
 refine bR h fun mb H2 h2 => ?_
 refine dO ?_
 refine aG h2 fun b H3 h3 => ?_
 exact ap ⟨b, rfl, h3.to⟩
theorem VL (w : Int) : Sp pE [vi w] emp (fun b : Nat => vp b) (fun _ => emp) := by
 refine av fun R H h => ?_
 refine aw (fun r => HA _ H) ?_
 refine af h (V7 w) fun x H1 h1 => ?_
 refine af h1 ZX fun y H2 h2 => ?_
 refine dO ?_
 refine aG h2 fun b H3 h3 => ?_
 exact ap ⟨b, rfl, h3.to⟩
theorem abH (m : Nat) (s : Int) : Sp sk [vp m, vi s] emp (fun b : Nat => vp b) (fun _ => emp) := by
 refine av fun R H h => ?_
 refine aw (fun r => JT _ _ H) ?_
 refine aa (jS) ?_
 refine aa (jT) ?_
 refine bR h fun mb H2 h2 => ?_
 refine bR h2 fun mc H3 h3 => ?_
 refine dO ?_
 refine aG h3 fun b H4 h4 => ?_
 exact ap ⟨b, rfl, h4.to⟩
structure Lf where
 k : Int
 i : Int
 b : Bool
abbrev Lf.cells (x : Lf) : List Value := [vw x.k, vi x.i, vb x.b]
instance : Enc Lf.cells 3 := ⟨fun _ => rfl, fun _ => rfl, by omega⟩
def Co (t : Nat) (lv : Value) (s : Nat) (nv : Value) (m : List Int) : SP := blk t (.cells false [lv, vi s, nv]) * ts 1 da nv m
theorem ac9 (n : Int) : Sp so [vi n] emp (fun b : Nat => vp b) (fun _ => emp) := by
 refine av fun R H h => ?_
 refine aw (fun r => KA _ H) ?_
 refine aa (jS) ?_
 refine aa (jT) ?_
 obtain ⟨k, hk⟩ : ∃ k : Nat, min (max n 1) 16 = k := ⟨(min (max n 1) 16).toNat, by omega⟩
 rw [hk]
 have hk1 : 1 ≤ k := by omega
 have hk16 : k ≤ 16 := by omega
 refine HG (enc := Lf.cells) (⟨0, 0, false⟩ : Lf) h rfl (by unfold cp; omega) (by omega) fun lb H1 h1 => ?_
 refine dO ?_
 refine aG h1 fun t H2 h2 => ?_
 refine ag (Cp _ _ _ H2) ?_
 -- the nodes
 have nodes : ∀ (s : Nat) (H : AH), s ≤ 32 → ae (Co t (vs lb k 3) s (.slice none 0 0) [] * R) H → wp (pY (.pointer none) (vp t) H) fun v' H' => ∃ b : Nat, v' = vp b ∧ ae (emp * R) H' := by
  intro s H hs h
  refine ag (Cq _ _ H) ?_
  unfold Co at h
  refine am h ac rfl ?_
  refine aa (gR (by omega) (by omega)) ?_
  refine ag (Cs _ _ _ _ H) ?_
  have loop : ∀ (d i : Nat) (nv : Value) (m : List Int) (H : AH), i + d = 2 * s → m.length = i → ae (blk t (.cells false [vs lb k 3, vi s, nv]) * ts 1 da nv m * R) H → wp (lQ (.pointer none) (vp t) (vi (2 * (s : Int))) (vi i) H) fun v' H' => ∃ b : Nat, v' = vp b ∧ ae (emp * R) H' := by
   intro d
   induction d with
   | zero =>
    intro i nv m H hi hm h
    refine ag (pZ _ _ _ _ H) ?_
    refine aa (bu (by omega)) ?_
    with_reducible repeat refine gg ?_
    refine ag (wz _ _ H) ?_
    refine ag (Cr _ _ H) ?_
    exact ap ⟨t, rfl, h.to⟩
   | succ d ih =>
    intro i nv m H hi hm h
    refine ag (pZ _ _ _ _ H) ?_
    refine aa (bI (by omega)) ?_
    with_reducible repeat refine gg ?_
    refine ag (Ct _ _ _ _ H) ?_
    refine am h ac rfl ?_
    refine jH h fun b0 H3 h3 => ?_
    refine fW (-1 : Int) h3 rfl ?_ (by omega) fun a c H4 h4 => ?_
    ·unfold cp; omega
    refine aK h4 ac rfl rfl fun H5 h5 => ?_
    refine ag (Cu _ _ _ _ H5) ?_
    refine aa (aC (by omega) (by omega)) ?_
    refine ih (i + 1) (.slice a (m.length + 1) c) (m ++ [-1]) H5 (by omega) (by simp; omega) h5.to
  exact loop (2 * s) 0 (.slice none 0 0) [] H (by omega) rfl h
 -- the size
 have size : ∀ (d s : Nat) (H : AH), 16 ≤ s + d → 1 ≤ s → s ≤ 32 → ae (Co t (vs lb k 3) s (.slice none 0 0) [] * R) H → wp (j3 (vi k) (.pointer none) (vp t) H) fun v' H' => ∃ b : Nat, v' = vp b ∧ ae (emp * R) H' := by
  intro d
  induction d with
  | zero =>
   intro s H hd hs1 hs h
   refine ag (oB _ _ _ H) ?_
   have h' := h
   unfold Co at h'
   refine am h' ac rfl ?_
   refine aa (bu (by omega)) ?_
   with_reducible repeat refine gg ?_
   refine ag (lP _ _ H) ?_
   exact nodes s H hs h
  | succ d ih =>
   intro s H hd hs1 hs h
   refine ag (oB _ _ _ H) ?_
   have h' := h
   unfold Co at h'
   refine am h' ac rfl ?_
   by_cases hlt : (s : Int) < k
   ·refine aa (bI hlt) ?_
    with_reducible repeat refine gg ?_
    refine ag (yE _ _ _ H) ?_
    refine am h' ac rfl ?_
    refine aa (gR (by omega) (by omega)) ?_
    refine aK h' ac rfl rfl fun H3 h3 => ?_
    refine ih (s * 2) H3 (by omega) (by omega) (by omega) ?_
    unfold Co
    rw [show (((s * 2 : Nat) : Int)) = (s : Int) * 2 from by omega]
    exact h3.to
   ·refine aa (bu hlt) ?_
    with_reducible repeat refine gg ?_
    refine ag (lP _ _ H) ?_
    exact nodes s H hs h
 refine size 16 1 H2 (by omega) (by omega) (by omega) ?_
 unfold Co
 have h3 := cY 1 da h2
 exact h3.to
abbrev lc (b : Nat) : List Value := [vp b]
instance : Enc lc 1 := ⟨fun _ => rfl, fun _ => rfl, by omega⟩
theorem UU (n w : Int) : Sp pC [vi n, vi w] emp (fun b : Nat => vp b) (fun _ => emp) := by
 refine av fun R H h => ?_
 refine aw (fun r => GT _ _ H) ?_
 refine aa (jS) ?_
 refine aa (jT) ?_
 obtain ⟨k, hk⟩ : ∃ k : Nat, min (max n 1) 16 = k := ⟨(min (max n 1) 16).toNat, by omega⟩
 rw [hk]
 have hk16 : k ≤ 16 := by omega
 refine af h (ac9 k) fun tb H1 h1 => ?_
 refine dO ?_
 refine aG h1 fun q H2 h2 => ?_
 refine ag (yl _ _ _ _ H2) ?_
 refine ag (yn _ _ _ _ _ H2) ?_
 have loop : ∀ (d i : Nat) (nv : Value) (m : List Nat) (H : AH), i + d = k → m.length = i → ae (blk q (.cells false [nv, vp tb]) * ts 1 lc nv m * R) H → wp (j1 (vi w) (.pointer none) (vp q) (vi k) (vi i) H) fun v' H' => ∃ b : Nat, v' = vp b ∧ ae (emp * R) H' := by
  intro d
  induction d with
  | zero =>
   intro i nv m H hi hm h
   refine ag (ou _ _ _ _ _ H) ?_
   refine aa (bu (by omega)) ?_
   with_reducible repeat refine gg ?_
   refine ag (uk _ _ H) ?_
   refine ag (ym _ _ H) ?_
   exact ap ⟨q, rfl, h.to⟩
  | succ d ih =>
   intro i nv m H hi hm h
   refine ag (ou _ _ _ _ _ H) ?_
   refine aa (bI (by omega)) ?_
   with_reducible repeat refine gg ?_
   refine ag (yo _ _ _ _ _ H) ?_
   refine aI ac ?_
   refine aE h rfl ?_
   refine af h (VL w) fun sb H3 h3 => ?_
   refine aA h3 h rfl ?_
   refine jH h3 fun b0 H4 h4 => ?_
   refine fW (sb : Nat) h4 rfl ?_ (by omega) fun a c H5 h5 => ?_
   ·unfold cp; omega
   refine aK h5 ac rfl rfl fun H6 h6 => ?_
   refine ag (yp _ _ _ _ _ H6) ?_
   refine aa (aC (by omega) (by omega)) ?_
   exact ih (i + 1) (.slice a (m.length + 1) c) (m ++ [sb]) H6 (by omega) (by simp; omega) h6.to
 refine loop k 0 (.slice none 0 0) [] H2 (by omega) rfl ?_
 have h3 := cY 1 lc h2
 exact h3.to
theorem WN (c : f0) : Sp se [.agg (f0.cells c).toArray] emp (fun b : Nat => vp b) (fun _ => emp) := by
 refine av fun R H h => ?_
 refine aw (fun r => Ig _ H) ?_
 refine aG h fun cb H1 h1 => ?_
 refine am h1 ah rfl ?_
 refine am h1 ah rfl ?_
 refine af h1 (UU c.sh c.wd) fun q H2 h2 => ?_
 refine bR h2 fun mb H3 h3 => ?_
 refine bR h3 fun mc H4 h4 => ?_
 refine dO ?_
 refine aG h4 fun b H5 h5 => ?_
 exact ap ⟨b, rfl, h5.to⟩
theorem NS {cl : TCls} {w : Nat} (n : Nat) (h : n ≠ 0) : ai cl .rem (vu w) (.int .u64 (n : Int)) = some (vu (w % n)) := iP h
theorem zJ (b b2 : Nat) (c : f0) (u : Nat) (hu : 1 ≤ u ∧ u ≤ 4611686018427387904) {R : SP} {H : AH} (h : ae (blk b2 (.cells false [vi 0, vi 0, vi 0, vi 0, vw 0]) * (blk b (.cells false (f0.cells c)) * R)) H) :
 wp (iC (vp b) (vp b2) (vu u) H) fun v' H' => ∃ c' : f0, v' = .agg (f0.cells c').toArray ∧ ae (pu (dh c' = true) * R) H' := by
 refine ag (uj _ _ _ H) ?_
 refine am h ah rfl ?_
 refine af h (b9 c.sh 4 (by omega) (by omega)) fun _ H1 h1 => ?_
 have m1 := dM (v := c.sh) (n := 4) (by omega)
 refine aa (aC (by omega) (by omega)) ?_
 refine aI ah ?_
 refine aE h1 rfl ?_
 refine aA h h1 rfl ?_
 refine af h1 (b9 c.sl 4 (by omega) (by omega)) fun _ H2 h2 => ?_
 have m2 := dM (v := c.sl) (n := 4) (by omega)
 refine aa (aC (by omega) (by omega)) ?_
 refine aI ah ?_
 refine aE h2 rfl ?_
 refine aA h h2 rfl ?_
 refine aA h1 h2 rfl ?_
 refine af h2 (b9 c.wk 6 (by omega) (by omega)) fun _ H3 h3 => ?_
 have m3 := dM (v := c.wk) (n := 6) (by omega)
 refine aa (aC (by omega) (by omega)) ?_
 refine aI ah ?_
 refine aE h3 rfl ?_
 refine aA h h3 rfl ?_
 refine aA h1 h3 rfl ?_
 refine aA h2 h3 rfl ?_
 refine af h3 (b9 c.wd 12 (by omega) (by omega)) fun _ H4 h4 => ?_
 have m4 := dM (v := c.wd) (n := 12) (by omega)
 refine dO ?_
 refine bX h4 rfl rfl fun H5 h5 => ?_
 refine aL h5 ?_
 refine ap ⟨⟨1 + cS c.sh 4, 1 + cS c.sl 4, 1 + cS c.wk 6, cS c.wd 12, u⟩, rfl, ?_⟩
 exact ae.pu.2 ⟨b7.2 (by dsimp only; omega), h5.to⟩
theorem JP (c : f0) : Sp md [.agg (f0.cells c).toArray] emp (fun c' : f0 => .agg (f0.cells c').toArray) (fun c' => pu (dh c' = true)) := by
 refine av fun R H h => ?_
 rw [jg] at h
 refine aw (fun r => BJ _ H) ?_
 refine aG h fun b H1 h1 => ?_
 refine aO h1 fun b2 H2 h2 => ?_
 refine am h2 ah rfl ?_
 refine aa (NS 5000 (by omega)) ?_
 refine aa (dt (a := 1) (by omega)) ?_
 refine ag (ui _ _ _ H2) ?_
 refine am h2 ah rfl ?_
 refine aa (NS 4 (by omega)) ?_
 refine aa (dJ) ?_
 refine bH (fun _ => ?_) (fun _ => ?_)
 ·refine am h2 ah rfl ?_
  refine aa (NS 4611686018427387904 (by omega)) ?_
  have hm := Nat.mod_lt c.un (show 4611686018427387904 > 0 by omega)
  generalize c.un % 4611686018427387904 = u at hm
  refine aa (dt (a := 1) (by omega)) ?_
  exact zJ b b2 c _ (by omega) h2
 ·have hm := Nat.mod_lt c.un (show 5000 > 0 by omega)
  exact zJ b b2 c _ (by omega) h2
section
variable {R : SP} {H : AH}
theorem WI {b2 b3 : Nat} {y y2 : Cl} {P : SP} (h : ae (blk b3 (.cells false (Cl.cells y)) * (blk b2 (.cells false (Cl.cells y2)) * P)) H) : wp (cH (vp b2) (vp b3) H) fun v' H' => ∃ y : Cl, v' = .agg (Cl.cells y).toArray ∧ ae P H' := by
 refine ag (yh _ _ H) ?_
 refine aL h ?_
 refine bX h rfl rfl fun H2 h2 => ?_
 refine aL h2 ?_
 exact ap ⟨y, rfl, h2.to⟩
end
theorem US (x : Cl) : Sp pB [.agg (Cl.cells x).toArray] emp (fun y : Cl => .agg (Cl.cells y).toArray) (fun _ => emp) := by
 refine av fun R H h => ?_
 rw [jg] at h
 refine aw (fun r => GS _ H) ?_
 refine aG h fun b1 H1 h1 => ?_
 refine aO h1 fun b2 H2 h2 => ?_
 refine am h2 ah rfl ?_
 refine af h2 (b9 x.flow 23 (by omega) (by omega)) fun _ H3 h3 => ?_
 simp only [jg]
 refine aa (dJ) ?_
 refine bH (fun _ => ?_) (fun _ => ?_)
 ·refine aL h3 ?_
  refine bX h3 rfl rfl fun H4 h4 => ?_
  refine aL h4 ?_
  exact ap ⟨x, rfl, h4.to⟩
 refine am h3 ah rfl ?_
 refine af h3 (b9 x.flow 5 (by omega) (by omega)) fun _ H4 h4 => ?_
 refine dO ?_
 refine aO h4 fun b3 H5 h5 => ?_
 refine bX h5 rfl rfl fun H6 h6 => ?_
 -- what each kind ends with
 have fin : ∀ (y : Cl) {H7 : AH}, ae (blk b3 (.cells false (Cl.cells y)) * (blk b2 (.cells false (Cl.cells ⟨0, 0, 0, 0⟩)) * R)) H7 → wp (cH (vp b2) (vp b3) H7) fun v' H' => ∃ y : Cl, v' = .agg (Cl.cells y).toArray ∧ ae R H' := fun y {H7} h7 => WI (y2 := ⟨0, 0, 0, 0⟩) h7
 refine ag (yg _ _ _ H6) ?_
 refine am h6 ah rfl ?_
 refine af h6 (b9 x.op 10 (by omega) (by omega)) fun _ H7 h7 => ?_
 generalize cS x.op 10 = o
 refine ag (yi _ _ _ _ H7) ?_
 refine aa (dJ) ?_
 refine ag (yj _ _ _ _ _ H7) ?_
 refine bH (fun _ => ?_) (fun _ => ?_)
 ·refine am h7 ah rfl ?_
  refine af h7 (b9 x.a 5 (by omega) (by omega)) fun _ H8 h8 => ?_
  have m1 := dM (v := x.a) (n := 5) (by omega)
  refine aa (aC (by omega) (by omega)) ?_
  refine aI ah ?_
  refine aE h8 rfl ?_
  refine aA h7 h8 rfl ?_
  refine af h8 (b9 x.b 3 (by omega) (by omega)) fun _ H9 h9 => ?_
  have m2 := dM (v := x.b) (n := 3) (by omega)
  refine aa (aC (by omega) (by omega)) ?_
  refine aK h9 ah rfl rfl fun H10 h10 => ?_
  refine aK h10 ah rfl rfl fun H11 h11 => ?_
  refine aK h11 ah rfl rfl fun H12 h12 => ?_
  exact fin ⟨1, cS x.flow 5, 1 + cS x.a 5, 1 + cS x.b 3⟩ h12.to
 refine aa (dJ) ?_
 refine ag (vQ _ _ _ _ _ H7) ?_
 refine bH (fun _ => ?_) (fun _ => ?_)
 ·refine aK h7 ah rfl rfl fun H8 h8 => ?_
  exact fin ⟨2, cS x.flow 5, 0, 0⟩ h8.to
 have tail : ∀ q : Bool, wp (jn (vp b1) (vp b2) (vp b3) (vi o) (vb q) H7) fun v' H' => ∃ y : Cl, v' = .agg (Cl.cells y).toArray ∧ ae R H' := by
  intro q
  refine ag (vR _ _ _ _ _ H7) ?_
  refine bH (fun _ => ?_) (fun _ => ?_)
  ·refine dO ?_
   refine bX h7 rfl rfl fun H8 h8 => ?_
   exact fin ⟨4, 0, 0, 0⟩ h8.to
  refine aa (dJ) ?_
  refine bH (fun _ => ?_) (fun _ => ?_)
  ·refine am h7 ah rfl ?_
   refine af h7 (b9 x.a 6 (by omega) (by omega)) fun _ H8 h8 => ?_
   refine dO ?_
   refine bX h8 rfl rfl fun H9 h9 => ?_
   exact fin ⟨5, 0, cS x.a 6, 0⟩ h9.to
  refine aa (dJ) ?_
  refine bH (fun _ => ?_) (fun _ => ?_)
  ·refine dO ?_
   refine bX h7 rfl rfl fun H8 h8 => ?_
   exact fin ⟨6, 0, 0, 0⟩ h8.to
  refine am h7 ah rfl ?_
  refine af h7 (b9 x.a 9 (by omega) (by omega)) fun _ H8 h8 => ?_
  have m1 := dM (v := x.a) (n := 9) (by omega)
  refine aa (aC (by omega) (by omega)) ?_
  refine aI ah ?_
  refine aE h8 rfl ?_
  refine aA h7 h8 rfl ?_
  refine af h8 (b9 x.b 1000 (by omega) (by omega)) fun _ H9 h9 => ?_
  refine aK h9 ah rfl rfl fun H10 h10 => ?_
  refine aK h10 ah rfl rfl fun H11 h11 => ?_
  refine aK h11 ah rfl rfl fun H12 h12 => ?_
  refine am h12 ah rfl ?_
  refine af h12 (b9 x.a 13 (by omega) (by omega)) fun _ H13 h13 => ?_
  refine aa (dJ) ?_
  refine bH (fun _ => ?_) (fun _ => ?_)
  ·refine am h13 ah rfl ?_
   refine af h13 (b9 x.a 65536 (by omega) (by omega)) fun _ H14 h14 => ?_
   have m2 := dM (v := x.a) (n := 65536) (by omega)
   refine aa (aC (by omega) (by omega)) ?_
   refine aK h14 ah rfl rfl fun H15 h15 => ?_
   exact fin ⟨3, cS x.flow 5, 1 + cS x.a 65536, cS x.b 1000⟩ h15.to
  ·exact fin ⟨3, cS x.flow 5, 1 + cS x.a 9, cS x.b 1000⟩ h13.to
 refine aa (dJ) ?_
 refine bH (fun _ => tail _) (fun _ => ?_)
 refine aa (dJ) ?_
 exact tail _
structure Pk where
 flow : Int
 len : Int
 mark : Int
abbrev Pk.cells (x : Pk) : List Value := [vi x.flow, vi x.len, vi x.mark]
instance : Enc Pk.cells 3 := ⟨fun _ => rfl, fun _ => rfl, by omega⟩
structure Ob where
 flow : Int
 most : Int
 r : Nat
structure Pt where
 step : Int
 who : Int
 place : Int
 e : Int
abbrev nc (e : Int) : List Value := [vi e, .slice none 0 0, vi 0, vw 0]
abbrev Pt.cells (x : Pt) : List Value := [vi x.step, vi x.who, vi x.place, vi x.e, .slice none 0 0, vi 0, vw 0]
instance : Enc Pt.cells 7 := ⟨fun _ => rfl, fun _ => rfl, by omega⟩
structure a7 where
 c : f0
 μ : Mu
 obs : List (Ob × List Pk)
 nx : Int → Option Nat
 places : Int → Option Int
 pts : List Pt
def fg (n : Int) : Nat := (min (max n 1) 8).toNat
theorem vK (n : Int) : 1 ≤ fg n ∧ fg n ≤ 8 ∧ (fg n : Int) = min (max n 1) 8 := by unfold fg; omega
abbrev UQ : Pk := ⟨0, 0, 0⟩
abbrev KP (k : Int) : Value := vi k
instance : KeyE .int KP where
 eq a b := by
  simp only [jA, KP, if_true]
  congr 1
 ok a := rfl
def bU (m i rp : Nat) (cs : List Pk) : SP := ex fun cv : Value => blk rp (.cells false [vp m, vi i, cv]) * ts 3 Pk.cells cv cs
def kW (m : Nat) : Nat → List (Nat × List Pk) → SP
 | _, [] => emp
 | i, p :: ps => bU m i p.1 p.2 * kW m (i + 1) ps
theorem J7 (m : Nat) : ∀ (ps : List (Nat × List Pk)) (i : Nat) (q : Nat × List Pk), kW m i (ps ++ [q]) = kW m i ps * bU m (i + ps.length) q.1 q.2 := by
 intro ps
 induction ps with
 | nil => intro i q; show bU m i q.1 q.2 * emp = emp * bU m (i + 0) q.1 q.2; rw [cX, jg]; rfl
 | cons p ps ih =>
  intro i q
  show bU m i p.1 p.2 * kW m (i + 1) (ps ++ [q]) = bU m i p.1 p.2 * kW m (i + 1) ps * _
  rw [ih, ar, List.length_cons, show i + 1 + ps.length = i + (ps.length + 1) from by omega]
abbrev Io (x : Ob × Nat) : List Value := [vi x.1.flow, vi x.1.most, vu x.1.r, vp x.2]
instance : Enc Io 4 := ⟨fun _ => rfl, fun _ => rfl, by omega⟩
structure PIds where
 m : Nat
 ib : Nat
 tb : Nat
 po : Nat
 co : Nat
 ov : Value
 pm : Nat
 pv : Value
 nm : Nat
 rp : List Nat
def jY (ib m nm : Nat) (c : f0) (nx : Int → Option Nat) : SP :=
 blk ib (.cells false [vp m, vi c.sh, .map (some nm), .func (.func bf) #[vi 9] #[], .func (.func bf) #[vi 14] #[]]) * Wi KP nm (fun k => (nx k).map fun n => vu n)
def aH (p : Nat) (g : PIds) (σ : a7) : SP :=
 blk p (.cells false [vp g.m, vp g.ib, vp g.tb, vp g.po, vp g.co, vi σ.c.sh, vi σ.c.sl, vi σ.c.wk, vi σ.c.wd, vu σ.c.un, g.ov, .map (some g.pm), g.pv]) *
 (bd g.m σ.μ * (jY g.ib g.m g.nm σ.c σ.nx * (tab g.tb g.m σ.c.sh.toNat σ.c.sl.toNat * (ts 4 Io g.ov ((σ.obs.map fun x => x.1).zip g.rp) * (kW g.m 0 (g.rp.zip (σ.obs.map fun x => x.2)) *
 (Wi KP g.pm (fun k => (σ.places k).map fun n => vi n) * ts 7 Pt.cells g.pv σ.pts))))))
def eI (p : Nat) (σ : a7) : SP := ex fun g : PIds => pu (g.rp.length = σ.obs.length) * aH p g σ
theorem lK {p : Nat} {σ : a7} {R : SP} {H : AH} (h : ae (eI p σ * R) H) : ∃ g : PIds, g.rp.length = σ.obs.length ∧ ae (aH p g σ * R) H := by
 obtain ⟨g, h1⟩ := ae.ex.1 h
 rw [ar, ae.pu] at h1
 exact ⟨g, h1⟩
theorem nR {p : Nat} {σ : a7} {R : SP} {H : AH} (g : PIds) (hl : g.rp.length = σ.obs.length) (h : ae (aH p g σ * R) H) : ae (eI p σ * R) H :=
 ae.ex.2 ⟨g, by rw [ar]; exact ae.pu.2 ⟨hl, h⟩⟩
abbrev a7.new (c : f0) : a7 := ⟨c, ⟨fun _ => 0, [], 0⟩, [], fun _ => none, fun _ => none, []⟩
theorem aaH : Sp vN [] emp (fun b : Nat => vp b) (fun b => bd b ⟨fun _ => 0, [], 0⟩) := by
 refine av fun R H h => ?_
 refine aw (fun r => Nb H) ?_
 refine bR h fun mb H2 h2 => ?_
 refine dO ?_
 refine aG h2 fun b H3 h3 => ?_
 refine ap ⟨b, rfl, ae.ex.2 ⟨(mb, .slice none 0 0, [], [], 0), ?_⟩⟩
 rw [ar, ae.pu]
 refine ⟨⟨.nil, fun _ => rfl, Nat.le_refl _⟩, ?_⟩
 have := RX 5 h3
 show ae (blk b (.cells false [.map (some mb), .slice none 0 0]) * (blk mb (.map [] 0) * sl 5 (.slice none 0 0) 0 []) * R) H3
 exact this.to
theorem MU (m : Nat) (c : f0) (hc : dh c = true) : Sp pz [vp m, vi c.sh] emp (fun b : Nat => vp b) (fun b => ex fun nm : Nat => jY b m nm c fun _ => none) := by
 have hc := b7.1 hc
 refine av fun R H h => ?_
 refine aw (fun r => Gv _ _ H) ?_
 refine aa (jS) ?_
 refine aa (jT) ?_
 rw [show min (max c.sh 1) 4 = c.sh from by omega]
 refine bR h fun mb H2 h2 => ?_
 refine dO ?_
 refine aG h2 fun b H3 h3 => ?_
 refine ap ⟨b, rfl, ae.ex.2 ⟨mb, ?_⟩⟩
 unfold jY
 have h4 : ae (blk mb (.map [] 0) * (blk b (.cells false [vp m, vi c.sh, .map (some mb), .func (.func bf) #[vi 9] #[], .func (.func bf) #[vi 14] #[]]) * (emp * R))) H3 := h3.to
 have h5 := Q2 KP h4
 show ae (blk b (.cells false [vp m, vi c.sh, .map (some mb), .func (.func bf) #[vi 9] #[], .func (.func bf) #[vi 14] #[]]) * Wi KP mb (fun _ => none) * R) H3
 exact h5.to
theorem OH (m : Nat) (c : f0) (hc : dh c = true) : Sp pF [vp m, vi c.sh, vi c.sl] emp (fun b : Nat => vp b) (fun b => tab b m c.sh.toNat c.sl.toNat) := by
 have hc := b7.1 hc
 refine av fun R H h => ?_
 refine aw (fun r => HE _ _ _ H) ?_
 refine aa (jS) ?_
 refine aa (jT) ?_
 refine aa (jS) ?_
 refine aa (jT) ?_
 rw [show min (max c.sh 1) 4 = ((c.sh.toNat : Nat) : Int) from by omega, show min (max c.sl 1) 4 = ((c.sl.toNat : Nat) : Int) from by omega]
 refine dO ?_
 refine aG h fun b H3 h3 => ?_
 exact ap ⟨b, rfl, by unfold tab; exact h3.to⟩
theorem Ns (c : f0) (hc : dh c = true) : Sp pA [.agg (f0.cells c).toArray] emp (fun b : Nat => .tuple #[vp b, vi 0]) (fun b => eI b (a7.new c)) := by
 refine av fun R H h => ?_
 refine aw (fun r => GO _ H) ?_
 refine aG h fun cb H1 h1 => ?_
 refine aL h1 ?_
 refine af h1 (Jx c) fun _ H2 h2 => ?_
 rw [hc]
 with_reducible repeat refine gg ?_
 rw [Bool.not_true]
 with_reducible repeat refine gg ?_
 refine af h2 aaH fun m H3 h3 => ?_
 refine am h3 ah rfl ?_
 refine af h3 (MU m c hc) fun ib H4 h4 => ?_
 obtain ⟨nm, h4b⟩ := ae.ex.1 h4
 refine aI ah ?_
 refine aE h4b rfl ?_
 refine aA h3 h4b rfl ?_
 refine aI ah ?_
 refine aE h4b rfl ?_
 refine aA h3 h4b rfl ?_
 refine af h4b (OH m c hc) fun tb H5 h5 => ?_
 refine aI ah ?_
 refine aE h5 rfl ?_
 refine aA h3 h5 rfl ?_
 refine aA h4b h5 rfl ?_
 refine af h5 (abH m c.wk) fun pb H6 h6 => ?_
 refine aL h6 ?_
 refine bg h3 h6 rfl ?_
 refine bg h4b h6 rfl ?_
 refine bg h5 h6 rfl ?_
 refine af h6 (WN c) fun kb H7 h7 => ?_
 refine aL h7 ?_
 refine bg h3 h7 rfl ?_
 refine bg h4b h7 rfl ?_
 refine bg h5 h7 rfl ?_
 refine bg h6 h7 rfl ?_
 refine bR h7 fun mb H8 h8 => ?_
 refine dO ?_
 refine aG h8 fun b H9 h9 => ?_
 refine ap ⟨b, rfl, ?_⟩
 refine nR ⟨m, ib, tb, pb, kb, .slice none 0 0, mb, .slice none 0 0, nm, []⟩ rfl ?_
 have h10 := cY 4 Io (cY 7 Pt.cells h9)
 have h11 : ae (blk mb (.map [] 0) * (ts 4 Io (.slice none 0 0) [] * (ts 7 Pt.cells (.slice none 0 0) [] * (blk b (.cells false [vp m, vp ib, vp tb, vp pb, vp kb, vi c.sh, vi c.sl, vi c.wk, vi c.wd, vu c.un, .slice none 0 0, .map (some mb), .slice none 0 0]) * (bd m ⟨fun _ => 0, [], 0⟩ * (jY ib m nm c (fun _ => none) * (tab tb m c.sh.toNat c.sl.toNat * (emp * R)))))))) H9 := h10.to
 have h12 := Q2 KP h11
 show ae (blk b (.cells false [vp m, vp ib, vp tb, vp pb, vp kb, vi c.sh, vi c.sl, vi c.wk, vi c.wd, vu c.un, .slice none 0 0, .map (some mb), .slice none 0 0]) * (bd m ⟨fun _ => 0, [], 0⟩ * (jY ib m nm c (fun _ => none) * (tab tb m c.sh.toNat c.sl.toNat * (ts 4 Io (.slice none 0 0) [] * (emp * (Wi KP mb (fun _ => none) * ts 7 Pt.cells (.slice none 0 0) [])))))) * R) H9
 exact h12.to
section
variable (p : Nat) (σ : a7)
theorem ab0 (m i : Nat) (most : Int) : Sp sn [vp m, vi i, vi most] emp (fun b : Nat => vp b) (fun b => bU m i b (List.replicate (fg most) UQ)) := by
 obtain ⟨q1, q2, q3⟩ := vK most
 refine av fun R H h => ?_
 refine aw (fun r => J6 _ _ _ H) ?_
 refine aa (jS) ?_
 refine aa (jT) ?_
 rw [← q3]
 refine HG (enc := Pk.cells) UQ h rfl (by unfold cp; omega) (by omega) fun cb H1 h1 => ?_
 refine dO ?_
 refine aG h1 fun b H2 h2 => ?_
 refine ap ⟨b, rfl, ?_⟩
 unfold bU
 exact ae.ex.2 ⟨vs cb (fg most) 3, h2.to⟩
abbrev a7.make (σ : a7) (who : Int) (o : Ob) : a7 := { σ with μ := σ.μ.acc who 6 (13, σ.obs.length, 0), obs := σ.obs ++ [(o, List.replicate (fg o.most) UQ)] }
theorem Nr (who : Int) (o : Ob) (hE : σ.μ.N < 1099511627000) (ho : σ.obs.length < 1000000) : Sp gF [vp p, vi who, .agg (#[vi o.flow, vi o.most, vu o.r] : Array Value)] (eI p σ) (fun _ : Unit => vi σ.obs.length) (fun _ => eI p (σ.make who o)) := by
 refine av fun R H h => ?_
 obtain ⟨g, hg, h0⟩ := lK h
 have hz : ((σ.obs.map fun x => x.1).zip g.rp).length = σ.obs.length := by simp [hg]
 unfold aH at h0
 refine aw (fun r => qY _ _ _ H) ?_
 refine aG (l := [vi o.flow, vi o.most, vu o.r]) h0 fun ob H1 h1 => ?_
 refine am h1 ac rfl ?_
 refine n0 (s := g.ov) h1 ?_
 rw [hz]
 refine am h1 ac rfl ?_
 refine dO ?_
 refine af h1 ((vI g.m σ.μ who (13, σ.obs.length, 0) (by omega)).imp fun _ R H h => jl (N' := σ.μ.N + 2) (by simp) h) fun _ H2 h2 => ?_
 refine aI ac ?_
 refine aE h2 rfl ?_
 refine aL h2 ?_
 refine am h2 ac rfl ?_
 refine am h2 ah rfl ?_
 refine af h2 (ab0 g.m σ.obs.length o.most) fun rb H3 h3 => ?_
 refine aA h3 h2 rfl ?_
 refine bg h3 h2 rfl ?_
 refine dO ?_
 refine jH h3 fun b0 H4 h4 => ?_
 refine fW ((o, rb) : Ob × Nat) h4 rfl ?_ (by omega) fun a cc H5 h5 => ?_
 ·unfold cp; omega
 refine aK h5 ac rfl rfl fun H6 h6 => ?_
 refine ap ⟨(), rfl, ?_⟩
 refine nR { g with ov := .slice a (((σ.obs.map fun x => x.1).zip g.rp).length + 1) cc, rp := g.rp ++ [rb] } (by simp [a7.make, hg]) ?_
 unfold aH a7.make
 dsimp only
 have e1 : ((σ.obs ++ [(o, List.replicate (fg o.most) UQ)]).map fun x => x.1).zip (g.rp ++ [rb]) = ((σ.obs.map fun x => x.1).zip g.rp) ++ [(o, rb)] := by
  rw [List.map_append, List.zip_append (by simp [hg])]
  rfl
 have e2 : (g.rp ++ [rb]).zip ((σ.obs ++ [(o, List.replicate (fg o.most) UQ)]).map fun x => x.2) = (g.rp.zip (σ.obs.map fun x => x.2)) ++ [(rb, List.replicate (fg o.most) UQ)] := by
  rw [List.map_append, List.zip_append (by simp [hg])]
  rfl
 have e3 : 0 + (g.rp.zip (σ.obs.map fun x => x.2)).length = σ.obs.length := by simp [hg]
 rw [e1, e2, J7, e3]
 exact h6.to
theorem ww : Sp aaO [.slice none 0 0] emp (fun _ : Unit => .slice none 0 0) (fun _ => emp) := by
 refine av fun R H h => ?_
 refine aw (fun r => ajJ _ H) ?_
 refine aa (v := vb true) rfl ?_
 with_reducible repeat refine gg ?_
 exact ap ⟨(), rfl, ae.to (by assumption)⟩
theorem rH (e : Int) : Sp lD [.agg (nc e).toArray] emp (fun _ : Unit => .agg (nc e).toArray) (fun _ => emp) := by
 refine av fun R H h => ?_
 refine aw (fun r => GP _ H) ?_
 refine aG h fun b1 H1 h1 => ?_
 refine aO h1 fun b2 H2 h2 => ?_
 refine am h2 ah rfl ?_
 refine af h2 ww fun _ H3 h3 => ?_
 refine aK h3 ah rfl rfl fun H4 h4 => ?_
 refine aL h4 ?_
 refine bX h4 rfl rfl fun H5 h5 => ?_
 refine aL h5 ?_
 exact ap ⟨(), rfl, h5.to⟩
abbrev a7.note (σ : a7) (step who e : Int) : a7 := { σ with pts := σ.pts ++ [⟨step, who, (σ.places who).getD 0, e⟩] }
theorem adJ {P R P2 R2 : SP} {H H2 : AH} {b : Nat} {f : Int → Option Value} {zero : Value} {kk : OV} {Q : Value → AH → Prop} (k : Int) (h : ae P H) [m : Mp P b KP f R] (h2 : ae P2 H2) [m2 : Mp P2 b KP f R2] (hk : wp kk Q) :
 wp (bD (ci .int zero (.map (some b)) (vi k) false H) (ci .int zero (.map (some b)) (vi k) false H2) kk) Q := by
 have one : ∀ {P R : SP} {H : AH} (h : ae P H) [m : Mp P b KP f R], ci .int zero (.map (some b)) (vi k) false H = some ((f k).getD zero) := by
  intro P R H h m
  obtain ⟨v, H', e, q⟩ : wp ((ci .int zero (.map (some b)) (vi k) false H).bind fun v => some (v, H)) (fun v _ => v = (f k).getD zero) := R8 (ek := KP) k h (ap rfl)
  obtain ⟨v', e1, e2⟩ := Option.bind_eq_some_iff.1 e
  have : v' = v := by simpa using congrArg (fun x => x.map Prod.fst) e2
  have e1' : ci .int zero (.map (some b)) (vi k) false H = some v' := e1
  rw [e1', this, q]
 exact rO (by rw [one h, one h2]) hk
end
theorem iD {cl : TCls} {a b : Int} (h : b ≠ 0) : ai cl .rem (vi a) (vi b) = some (vi (a.tmod b)) := by
 simp only [ai, kY, if_true]
 rw [if_neg h]
theorem akP {a b : Nat} : gL [vu a, vu b] = some (vu (max a b)) := by
 simp only [gL]
 congr 2
 split <;> omega
abbrev oT (x : Ob) : List Value := [vi x.flow, vi x.most, vu x.r]
instance : Enc oT 3 := ⟨fun _ => rfl, fun _ => rfl, by omega⟩
abbrev Lu (n : Nat) : List Value := [vu n]
instance : Enc Lu 1 := ⟨fun _ => rfl, fun _ => rfl, by omega⟩
def fI : List (Int × Int) → Int → Int
 | [], _ => 0
 | p :: ps, who => if (ps.any fun q => q.1 == who) = true then fI ps who else if p.1 = who then p.2 else 0
def d6 (l : List (Int × Int)) : List Int := l.flatMap fun p => [p.1, p.2]
def C2 (l : List (Int × Nat)) (k : Int) : Option Nat := (l.find? fun p => p.1 == k).map (·.2)
def rx (x : Pt) : List Pt → List Pt
 | [] => [x]
 | y :: l => if y.step ≤ x.step ∨ (l.any fun z => decide (z.step ≤ x.step)) = true then y :: rx x l else x :: y :: l
def a8 (l : List Pt) : List Pt := l.foldl (fun acc x => rx x acc) []
def ca (m i rp : Nat) (cs : List Pk) : SP := ex fun cv : Value => blk rp (.cells false [vp m, vi i, vi cs.length, cv]) * ts 3 Pk.cells cv cs
def iE (m : Nat) : Nat → List (Nat × List Pk) → SP
 | _, [] => emp
 | i, p :: ps => ca m i p.1 p.2 * iE m (i + 1) ps
theorem J8 (m : Nat) : ∀ (ps : List (Nat × List Pk)) (i : Nat) (q : Nat × List Pk), iE m i (ps ++ [q]) = iE m i ps * ca m (i + ps.length) q.1 q.2 := by
 intro ps
 induction ps with
 | nil => intro i q; show ca m i q.1 q.2 * emp = emp * ca m (i + 0) q.1 q.2; rw [cX, jg]; rfl
 | cons p ps ih =>
  intro i q
  show ca m i p.1 p.2 * iE m (i + 1) (ps ++ [q]) = ca m i p.1 p.2 * iE m (i + 1) ps * _
  rw [ih, ar, List.length_cons, show i + 1 + ps.length = i + (ps.length + 1) from by omega]
def fw (ib m : Nat) (sh : Int) (nx : Int → Option Nat) (L : Nat) : SP := ex fun g : Value × Value × List (Int × Nat) =>
 pu ((∀ k, C2 g.2.2 k = nx k) ∧ g.2.2.length ≤ L) * (blk ib (.cells false [vp m, vi sh, g.1, g.2.1]) * (ts 1 da g.1 (g.2.2.map (·.1)) * ts 1 Lu g.2.1 (g.2.2.map (·.2))))
theorem mL {ib m : Nat} {sh : Int} {nx : Int → Option Nat} {L : Nat} {R : SP} {H : AH} (h : ae (fw ib m sh nx L * R) H) :
 ∃ (kv nv : Value) (ns : List (Int × Nat)), ((∀ k, C2 ns k = nx k) ∧ ns.length ≤ L) ∧ ae (blk ib (.cells false [vp m, vi sh, kv, nv]) * (ts 1 da kv (ns.map (·.1)) * (ts 1 Lu nv (ns.map (·.2)) * R))) H := by
 obtain ⟨⟨kv, nv, ns⟩, h1⟩ := ae.ex.1 h
 rw [ar, ae.pu] at h1
 exact ⟨kv, nv, ns, h1.1, h1.2.to⟩
theorem gz {ib m : Nat} {sh : Int} {nx : Int → Option Nat} {L : Nat} {R : SP} {H : AH} {kv nv : Value} {ns : List (Int × Nat)} (hn : (∀ k, C2 ns k = nx k) ∧ ns.length ≤ L)
 (h : ae (blk ib (.cells false [vp m, vi sh, kv, nv]) * (ts 1 da kv (ns.map (·.1)) * (ts 1 Lu nv (ns.map (·.2)) * R))) H) : ae (fw ib m sh nx L * R) H := by
 refine ae.ex.2 ⟨(kv, nv, ns), ?_⟩
 rw [ar, ae.pu]
 exact ⟨hn, h.to⟩
theorem lx {ib m : Nat} {sh : Int} {nx : Int → Option Nat} {L L' : Nat} {R : SP} {H : AH} (hL : L ≤ L') (h : ae (fw ib m sh nx L * R) H) : ae (fw ib m sh nx L' * R) H := by
 obtain ⟨g, h1⟩ := ae.ex.1 h
 rw [ar, ae.pu] at h1
 exact ae.ex.2 ⟨g, by rw [ar]; exact ae.pu.2 ⟨⟨h1.1.1, Nat.le_trans h1.1.2 hL⟩, h1.2⟩⟩
structure XIds where
 m : Nat
 ib : Nat
 tb : Nat
 po : Nat
 co : Nat
 ov : Value
 rv : Value
 rp : List Nat
 wv : Value
 ws : List (Int × Int)
 pv : Value
def ay (x : Nat) (g : XIds) (σ : a7) : SP :=
 blk x (.cells false [vi σ.c.sh, vi σ.c.sl, vi σ.c.wk, vi σ.c.wd, vu σ.c.un, vp g.m, vp g.ib, vp g.tb, vp g.po, vp g.co, g.ov, g.rv, g.wv, g.pv]) *
 (bi g.m σ.μ * (fw g.ib g.m σ.c.sh σ.nx σ.μ.N * (tab g.tb g.m σ.c.sh.toNat σ.c.sl.toNat *
 (ts 3 oT g.ov (σ.obs.map fun x => x.1) * (ts 1 lc g.rv g.rp * (iE g.m 0 (g.rp.zip (σ.obs.map fun x => x.2)) * (ts 1 da g.wv (d6 g.ws) * ts 7 Pt.cells g.pv (a8 σ.pts))))))))
def fH (g : XIds) (σ : a7) : Prop := g.rp.length = σ.obs.length ∧ (∀ k, fI g.ws k = (σ.places k).getD 0) ∧ g.ws.length ≤ σ.μ.N
def bj (x : Nat) (σ : a7) : SP := ex fun g : XIds => pu (fH g σ) * ay x g σ
theorem ef {p : Nat} {σ : a7} {R : SP} {H : AH} (h : ae (bj p σ * R) H) : ∃ g : XIds, fH g σ ∧ ae (ay p g σ * R) H := by
 obtain ⟨g, h1⟩ := ae.ex.1 h
 rw [ar, ae.pu] at h1
 exact ⟨g, h1⟩
theorem cG {p : Nat} {σ : a7} {R : SP} {H : AH} (g : XIds) (hl : fH g σ) (h : ae (ay p g σ * R) H) : ae (bj p σ * R) H :=
 ae.ex.2 ⟨g, by rw [ar]; exact ae.pu.2 ⟨hl, h⟩⟩
theorem GZ (m : Nat) (c : f0) (hc : dh c = true) : Sp kM [vp m, vi c.sh] emp (fun b : Nat => vp b) (fun b => blk b (.cells false [vp m, vi c.sh, .slice none 0 0, .slice none 0 0])) := by
 have hc := b7.1 hc
 refine av fun R H h => ?_
 refine aw (fun r => yx _ _ H) ?_
 refine aa (jS) ?_
 refine aa (jT) ?_
 rw [show min (max c.sh 1) 4 = c.sh from by omega]
 refine dO ?_
 refine aG h fun b H3 h3 => ?_
 exact ap ⟨b, rfl, h3.to⟩
theorem G1 (m : Nat) (c : f0) (hc : dh c = true) : Sp kO [vp m, vi c.sh, vi c.sl] emp (fun b : Nat => vp b) (fun b => tab b m c.sh.toNat c.sl.toNat) := by
 have hc := b7.1 hc
 refine av fun R H h => ?_
 refine aw (fun r => yz _ _ _ H) ?_
 refine aa (jS) ?_
 refine aa (jT) ?_
 refine aa (jS) ?_
 refine aa (jT) ?_
 rw [show min (max c.sh 1) 4 = ((c.sh.toNat : Nat) : Int) from by omega, show min (max c.sl 1) 4 = ((c.sl.toNat : Nat) : Int) from by omega]
 refine dO ?_
 refine aG h fun b H3 h3 => ?_
 exact ap ⟨b, rfl, by unfold tab; exact h3.to⟩
theorem JZ (m : Nat) (w : Int) : Sp mg [vp m, vi w] emp (fun b : Nat => vp b) (fun _ => emp) := by
 refine av fun R H h => ?_
 refine aw (fun r => BP _ _ H) ?_
 refine aa (jS) ?_
 refine aa (jT) ?_
 refine dO ?_
 refine aG h fun b H3 h3 => ?_
 exact ap ⟨b, rfl, h3.to⟩
theorem UV (w : Int) : Sp pD [vi w] emp (fun x : Int => vi x) (fun _ => emp) := by
 refine av fun R H h => ?_
 refine aw (fun r => GV _ H) ?_
 refine aa (jS) ?_
 refine aa (jT) ?_
 exact ap ⟨_, rfl, h⟩
theorem GW (n w : Int) : Sp aaL [vi n, vi w] emp (fun b : Nat => vp b) (fun _ => emp) := by
 refine av fun R H h => ?_
 refine aw (fun r => ajD _ _ H) ?_
 refine dO ?_
 refine aG h fun q H2 h2 => ?_
 refine ag (U1 _ _ _ _ H2) ?_
 refine ag (U3 _ _ _ _ _ H2) ?_
 obtain ⟨k, hk⟩ : ∃ k : Nat, min (max n 1) 16 = k := ⟨(min (max n 1) 16).toNat, by omega⟩
 have hk16 : k ≤ 16 := by omega
 have loop : ∀ (d i : Nat) (nv : Value) (m : List Nat) (H : AH), i + d = k → m.length = i → ae (blk q (.cells false [nv]) * ts 1 lc nv m * R) H → wp (G3 (vi n) (vi w) (.pointer none) (vp q) (vi i) H) fun v' H' => ∃ b : Nat, v' = vp b ∧ ae (emp * R) H' := by
  intro d
  induction d with
  | zero =>
   intro i nv m H hi hm h
   refine ag (Eb _ _ _ _ _ H) ?_
   refine aa (jS) ?_
   refine aa (jT) ?_
   refine aa (bu (by omega)) ?_
   with_reducible repeat refine gg ?_
   refine ag (J3 _ _ H) ?_
   refine ag (U2 _ _ H) ?_
   exact ap ⟨q, rfl, h.to⟩
  | succ d ih =>
   intro i nv m H hi hm h
   refine ag (Eb _ _ _ _ _ H) ?_
   refine aa (jS) ?_
   refine aa (jT) ?_
   refine aa (bI (by omega)) ?_
   with_reducible repeat refine gg ?_
   refine ag (U4 _ _ _ _ _ H) ?_
   refine aI ac ?_
   refine aE h rfl ?_
   refine af h (UV w) fun x H3 h3 => ?_
   refine aA h3 h rfl ?_
   refine dO ?_
   refine aG h3 fun sb H3b h3b => ?_
   refine jH h3b fun b0 H4 h4 => ?_
   refine fW (sb : Nat) h4 rfl ?_ (by omega) fun a c H5 h5 => ?_
   ·unfold cp; omega
   refine aK h5 ac rfl rfl fun H6 h6 => ?_
   refine ag (U5 _ _ _ _ _ H6) ?_
   refine aa (aC (by omega) (by omega)) ?_
   exact ih (i + 1) (.slice a (m.length + 1) c) (m ++ [sb]) H6 (by omega) (by simp; omega) h6.to
 refine loop k 0 (.slice none 0 0) [] H2 (by omega) rfl ?_
 have h3 := cY 1 lc h2
 exact h3.to
theorem JY (c : f0) : Sp mf [.agg (f0.cells c).toArray] emp (fun b : Nat => vp b) (fun _ => emp) := by
 refine av fun R H h => ?_
 refine aw (fun r => BO _ H) ?_
 refine aG h fun cb H1 h1 => ?_
 refine am h1 ah rfl ?_
 refine am h1 ah rfl ?_
 refine af h1 (GW c.sh c.wd) fun q H2 h2 => ?_
 refine dO ?_
 refine aG h2 fun b H5 h5 => ?_
 exact ap ⟨b, rfl, h5.to⟩
theorem aaF {b : Nat} {R : SP} {H : AH} (h : ae (blk b (.cells false [.slice none 0 0, .slice none 0 0, .slice none 0 0]) * R) H) : ae (bi b ⟨fun _ => 0, [], 0⟩ * R) H := by
 refine ae.ex.2 ⟨[], ?_⟩
 rw [ar, ae.pu]
 refine ⟨⟨fun _ => rfl, Nat.le_refl _⟩, ae.ex.2 ⟨(.slice none 0 0, .slice none 0 0, .slice none 0 0), ?_⟩⟩
 have h1 := cY 3 E9 (cY 1 Ip (cY 5 Ev.cells h))
 exact h1.to
theorem G0 (c : f0) (hc : dh c = true) : Sp kN [.agg (f0.cells c).toArray] emp (fun b : Nat => vp b) (fun b => bj b (a7.new c)) := by
 refine av fun R H h => ?_
 refine aw (fun r => yy _ H) ?_
 refine aG h fun cb H1 h1 => ?_
 refine dO ?_
 refine aG h1 fun m H2 h2 => ?_
 refine aL h2 ?_
 refine am h2 ah rfl ?_
 refine af h2 (GZ m c hc) fun ib H3 h3 => ?_
 refine bg h3 h2 rfl ?_
 refine aI ah ?_
 refine aE h3 rfl ?_
 refine aA h2 h3 rfl ?_
 refine aI ah ?_
 refine aE h3 rfl ?_
 refine aA h2 h3 rfl ?_
 refine af h3 (G1 m c hc) fun tb H4 h4 => ?_
 refine bg h4 h2 rfl ?_
 refine aI ah ?_
 refine aE h4 rfl ?_
 refine aA h2 h4 rfl ?_
 refine aA h3 h4 rfl ?_
 refine af h4 (JZ m c.wk) fun pb H5 h5 => ?_
 refine bg h5 h2 rfl ?_
 refine aL h5 ?_
 refine bg h2 h5 rfl ?_
 refine bg h3 h5 rfl ?_
 refine bg h4 h5 rfl ?_
 refine af h5 (JY c) fun kb H6 h6 => ?_
 refine bg h6 h2 rfl ?_
 refine dO ?_
 refine aG h6 fun b H7 h7 => ?_
 refine ap ⟨b, rfl, ?_⟩
 refine cG ⟨m, ib, tb, pb, kb, .slice none 0 0, .slice none 0 0, [], .slice none 0 0, [], .slice none 0 0⟩ ⟨rfl, fun _ => rfl, Nat.le_refl _⟩ ?_
 have h8 := aaF (b := m) (R := blk b (.cells false [vi c.sh, vi c.sl, vi c.wk, vi c.wd, vu c.un, vp m, vp ib, vp tb, vp pb, vp kb, .slice none 0 0, .slice none 0 0, .slice none 0 0, .slice none 0 0]) * (tab tb m c.sh.toNat c.sl.toNat * (blk ib (.cells false [vp m, vi c.sh, .slice none 0 0, .slice none 0 0]) * R))) (ae.to h7)
 have h8a := cY 1 da (cY 1 Lu h8)
 have h8b := gz (ib := ib) (m := m) (sh := c.sh) (nx := fun _ => none) (L := 0) (kv := .slice none 0 0) (nv := .slice none 0 0) (ns := []) (R := bi m ⟨fun _ => 0, [], 0⟩ * (blk b (.cells false [vi c.sh, vi c.sl, vi c.wk, vi c.wd, vu c.un, vp m, vp ib, vp tb, vp pb, vp kb, .slice none 0 0, .slice none 0 0, .slice none 0 0, .slice none 0 0]) * (tab tb m c.sh.toNat c.sl.toNat * R))) (H := H7) ⟨fun _ => rfl, Nat.le_refl _⟩ (show ae (blk ib (.cells false [vp m, vi c.sh, .slice none 0 0, .slice none 0 0]) * (ts 1 da (.slice none 0 0) [] * (ts 1 Lu (.slice none 0 0) [] * (bi m ⟨fun _ => 0, [], 0⟩ * (blk b (.cells false [vi c.sh, vi c.sl, vi c.wk, vi c.wd, vu c.un, vp m, vp ib, vp tb, vp pb, vp kb, .slice none 0 0, .slice none 0 0, .slice none 0 0, .slice none 0 0]) * (tab tb m c.sh.toNat c.sl.toNat * R)))))) H7 from h8a.to)
 have h9 := cY 3 oT (cY 1 lc (cY 1 da (cY 7 Pt.cells h8b)))
 unfold ay
 show ae (blk b (.cells false [vi c.sh, vi c.sl, vi c.wk, vi c.wd, vu c.un, vp m, vp ib, vp tb, vp pb, vp kb, .slice none 0 0, .slice none 0 0, .slice none 0 0, .slice none 0 0]) * (bi m ⟨fun _ => 0, [], 0⟩ * (fw ib m c.sh (fun _ => none) 0 * (tab tb m c.sh.toNat c.sl.toNat *
  (ts 3 oT (.slice none 0 0) [] * (ts 1 lc (.slice none 0 0) [] * (emp * (ts 1 da (.slice none 0 0) [] * ts 7 Pt.cells (.slice none 0 0) [])))))))  * R) H7
 exact h9.to
theorem sy {cl : TCls} {a b : Int} (h : b ≠ 0) (h0 : -9223372036854775808 ≤ a.tdiv b) (h1 : a.tdiv b < 9223372036854775808) : ai cl .quo (vi a) (vi b) = some (vi (a.tdiv b)) := by
 simp only [ai, kY, if_true]
 rw [if_neg h, ng h0 h1]
theorem tZ {m : Nat} {V : cn → Nat} {E : List Ev} {N N' : Nat} {R : SP} {H : AH} (hN : N ≤ N') (h : ae (bi m ⟨V, E, N⟩ * R) H) : ae (bi m ⟨V, E, N'⟩ * R) H := by
 obtain ⟨al, h1⟩ := ae.ex.1 h
 rw [ar, ae.pu] at h1
 exact ae.ex.2 ⟨al, by rw [ar]; exact ae.pu.2 ⟨⟨h1.1.1, Nat.le_trans h1.1.2 hN⟩, h1.2⟩⟩
def jV (flow : Int) (obj : Nat) : Nat := (flow + 1).toNat * 4294967296 + obj
section
variable (t m : Nat) (sh sl : Nat) (μ : Mu) (who s i flow : Int) (obj : Nat)
theorem V0 (hE : μ.N < 1099511627000) (hf : 0 ≤ flow ∧ flow ≤ 1048576) (ho : obj < 4294967296) :
 Sp iv [vp t, vi who, vi s, vi i, vi flow, vi obj] (tab t m sh sl * bd m μ) (fun _ : Unit => vb true) (fun _ => tab t m sh sl * bd m ((μ.acc who 2 (10, s, i)).put (10, s, i) (jV flow obj))) := by
 refine av fun R H h => ?_
 refine aw (fun r => sR _ _ _ _ _ _ H) ?_
 unfold tab at h ⊢
 refine aa (bu (by omega)) ?_
 with_reducible repeat refine gg ?_
 refine aa (gT ?_) ?_
 ·omega
 with_reducible repeat refine gg ?_
 refine aa (bu ?_) ?_
 ·omega
 with_reducible repeat refine gg ?_
 refine aa (ol ?_) ?_
 ·omega
 with_reducible repeat refine gg ?_
 refine aI ac ?_
 refine aE h rfl ?_
 refine af h (sS s i) fun _ H1 h1 => ?_
 refine aA h1 h rfl ?_
 refine aa (aC (by omega) (by omega)) ?_
 refine aa (dk (by omega) (by omega)) ?_
 have hn : (flow + 1).toNat ≤ 1048577 := by omega
 have e1 : ai .other .shl (vu (flow + 1).toNat) (vw 32) = some (vu ((flow + 1).toNat * 4294967296)) := by
  have := Dl (cl := .other) (a := (flow + 1).toNat) (k := .u64) (n := 32) (by omega)
  simp only [Nat.reducePow] at this
  rw [Nat.mod_eq_of_lt (by omega)] at this
  exact this
 refine aa (e1) ?_
 refine aa (dk (by omega) (by omega)) ?_
 rw [show ((obj : Nat) : Int).toNat = obj from Int.toNat_natCast obj]
 have e2 : ai .other .or (vu ((flow + 1).toNat * 4294967296)) (vu obj) = some (vu (jV flow obj)) := by
  rw [Wy (by omega) (by omega)]
  congr 3
  have := Nat.two_pow_add_eq_or_of_lt (i := 32) (b := obj) (by simp only [Nat.reducePow]; omega) (flow + 1).toNat
  simp only [Nat.reducePow] at this
  rw [jV, Nat.mul_comm, ← this]
 refine aa (e2) ?_
 refine af h1 (ud m μ who (10, s, i) (jV flow obj) (by omega)) fun _ H2 h2 => ?_
 exact ap ⟨(), rfl, h2.to⟩
theorem afZ (hE : μ.N < 1099511627000) (hf : 0 ≤ flow ∧ flow ≤ 1048576) (ho : obj < 4294967296) :
 Sp jO [vp t, vi who, vi s, vi i, vi flow, vi obj] (tab t m sh sl * bi m μ) (fun _ : Unit => vb true) (fun _ => tab t m sh sl * bi m ((μ.acc who 2 (10, s, i)).put (10, s, i) (jV flow obj))) := by
 refine av fun R H h => ?_
 refine aw (fun r => wh _ _ _ _ _ _ H) ?_
 unfold tab at h ⊢
 refine aa (bu (by omega)) ?_
 with_reducible repeat refine gg ?_
 refine aa (gT ?_) ?_
 ·omega
 with_reducible repeat refine gg ?_
 refine aa (bu ?_) ?_
 ·omega
 with_reducible repeat refine gg ?_
 refine aa (dk (by omega) (by omega)) ?_
 rw [show ((obj : Nat) : Int).toNat = obj from Int.toNat_natCast obj]
 with_reducible repeat refine gg ?_
 refine aa (ol ?_) ?_
 ·omega
 with_reducible repeat refine gg ?_
 refine aI ac ?_
 refine aE h rfl ?_
 refine af h (cw 10 s i) fun _ H1 h1 => ?_
 refine aA h1 h rfl ?_
 refine aa (aC (by omega) (by omega)) ?_
 refine aa (dk (by omega) (by omega)) ?_
 have hn : (flow + 1).toNat ≤ 1048577 := by omega
 refine aa (akQ) ?_
 rw [Nat.mod_eq_of_lt (by omega)]
 refine aa (dk (by omega) (by omega)) ?_
 rw [show ((obj : Nat) : Int).toNat = obj from Int.toNat_natCast obj]
 refine aa (dt (by omega)) ?_
 refine af h1 (na m μ who (10, s, i) (jV flow obj) (by omega)) fun _ H2 h2 => ?_
 exact ap ⟨(), rfl, h2.to⟩
end
section
variable (p : Nat) (σ : a7)
theorem Vg (m i : Nat) (most : Int) : Sp mh [vp m, vi i, vi most] emp (fun b : Nat => vp b) (fun b => ca m i b (List.replicate (fg most) UQ)) := by
 obtain ⟨q1, q2, q3⟩ := vK most
 refine av fun R H h => ?_
 refine aw (fun r => BQ _ _ _ H) ?_
 refine aa (jS) ?_
 refine aa (jT) ?_
 rw [← q3]
 refine HG (enc := Pk.cells) UQ h rfl (by unfold cp; omega) (by omega) fun cb H1 h1 => ?_
 refine dO ?_
 refine aG h1 fun b H2 h2 => ?_
 refine ap ⟨b, rfl, ?_⟩
 unfold ca
 refine ae.ex.2 ⟨vs cb (fg most) 3, ?_⟩
 rw [List.length_replicate]
 exact h2.to
theorem akO (who : Int) (o : Ob) (hE : σ.μ.N < 1099511627000) (ho : σ.obs.length < 1000000) : Sp i4 [vp p, vi who, .agg [vi o.flow, vi o.most, vu o.r].toArray] (bj p σ) (fun _ : Unit => vi σ.obs.length) (fun _ => bj p (σ.make who o)) := by
 refine av fun R H h => ?_
 obtain ⟨g, ⟨hg, hg2⟩, h0⟩ := ef h
 unfold ay at h0
 refine aw (fun r => uu _ _ _ H) ?_
 refine aG (l := [vi o.flow, vi o.most, vu o.r]) h0 fun ob H1 h1 => ?_
 refine am h1 ac rfl ?_
 refine n0 (s := g.ov) h1 ?_
 rw [List.length_map]
 refine aI ac ?_
 refine aE h1 rfl ?_
 refine af h1 (cw 13 σ.obs.length 0) fun _ H2 h2 => ?_
 refine aA h2 h1 rfl ?_
 refine af h2 ((Wf g.m σ.μ who 6 (13, σ.obs.length, 0) (by omega)).imp fun _ R H h => tZ (N' := σ.μ.N + 2) (by simp) h) fun _ H3 h3 => ?_
 refine am h3 ac rfl ?_
 refine aL h3 ?_
 refine jH h3 fun b0 H4 h4 => ?_
 refine fW (o : Ob) h4 rfl ?_ (by omega) fun a cc H5 h5 => ?_
 ·unfold cp; simp only [List.length_map]; omega
 refine aI ac ?_
 refine aE h5 rfl ?_
 refine aA h4 h5 rfl ?_
 refine aI ac ?_
 refine aE h5 rfl ?_
 refine aA h4 h5 rfl ?_
 refine aI ah ?_
 refine aE h5 rfl ?_
 refine aA h4 h5 rfl ?_
 refine af h5 (Vg g.m σ.obs.length o.most) fun rb H6 h6 => ?_
 refine aA h6 h5 rfl ?_
 refine jH h6 fun b1 H7 h7 => ?_
 refine fW (rb : Nat) h7 rfl ?_ (by omega) fun a2 c2 H8 h8 => ?_
 ·unfold cp; omega
 refine aK h8 ac rfl rfl fun H9 h9 => ?_
 refine aK h9 ac rfl rfl fun H10 h10 => ?_
 refine ap ⟨(), rfl, ?_⟩
 refine cG { g with ov := .slice a ((σ.obs.map fun x => x.1).length + 1) cc, rv := .slice a2 (g.rp.length + 1) c2, rp := g.rp ++ [rb] } ⟨by simp [a7.make, hg], hg2.1, Nat.le_trans hg2.2 (by simp [a7.make])⟩ ?_
 unfold ay a7.make
 dsimp only
 have e2 : (g.rp ++ [rb]).zip ((σ.obs ++ [(o, List.replicate (fg o.most) UQ)]).map fun x => x.2) = (g.rp.zip (σ.obs.map fun x => x.2)) ++ [(rb, List.replicate (fg o.most) UQ)] := by
  rw [List.map_append, List.zip_append (by simp [hg])]
  rfl
 have e1 : (σ.obs ++ [(o, List.replicate (fg o.most) UQ)]).map (fun x => x.1) = (σ.obs.map fun x => x.1) ++ [o] := by rw [List.map_append]; rfl
 have e3 : 0 + (g.rp.zip (σ.obs.map fun x => x.2)).length = σ.obs.length := by simp [hg]
 rw [e1, e2, J8, e3]
 dsimp only
 have h11 := lx (L' := σ.μ.N + 2) (by omega) (ae.fr (A := fw g.ib g.m σ.c.sh σ.nx σ.μ.N) h10)
 exact h11.to
theorem JX (u : Nat) (w : Int) (hu : 1 ≤ u ∧ u ≤ 4611686018427387904) (hw : 1 ≤ w ∧ w ≤ 65536) : Sp me [vu u, vi w] emp (fun _ : Unit => .tuple #[vu (max (u / w.toNat) 1), vb true]) (fun _ => emp) := by
 refine av fun R H h => ?_
 refine aw (fun r => BK _ _ H) ?_
 refine aa (bu (by omega)) ?_
 with_reducible repeat refine gg ?_
 refine aa (gT ?_) ?_
 ·omega
 with_reducible repeat refine gg ?_
 refine aa (bu ?_) ?_
 ·omega
 with_reducible repeat refine gg ?_
 refine aa (gT ?_) ?_
 ·omega
 with_reducible repeat refine gg ?_
 refine aa (dk (by omega) (by omega)) ?_
 refine aa (Dk (by omega) (by omega)) ?_
 refine aa (akP (b := 1)) ?_
 exact ap ⟨(), rfl, h.to⟩
abbrev a7.lay (σ : a7) (f w most : Int) : a7 :=
 { σ.make 0 ⟨f, most, max (σ.c.un / w.toNat) 1⟩ with
  μ := ((σ.make 0 ⟨f, most, max (σ.c.un / w.toNat) 1⟩).μ.acc 0 2 (10, f.tmod σ.c.sh, f.tdiv σ.c.sh)).put (10, f.tmod σ.c.sh, f.tdiv σ.c.sh) (jV f σ.obs.length) }
theorem afM (x : Nat) (f w most : Int) (hc : dh σ.c = true) (hE : σ.μ.N < 1099511620000) (ho : σ.obs.length < 1000000) (hf : 0 ≤ f ∧ f ≤ 1048576) (hw : 1 ≤ w ∧ w ≤ 65536) :
 Sp kI [.agg [vp p, vp x].toArray, vi f, vi w, vi most] (eI p σ * bj x σ) (fun _ : Unit => vb true) (fun _ => eI p (σ.lay f w most) * bj x (σ.lay f w most)) := by
 have hr := b7.1 hc
 have q0 : 0 ≤ f.tdiv σ.c.sh := Int.tdiv_nonneg hf.1 (by omega)
 have q1 : f.tdiv σ.c.sh ≤ f := Int.tdiv_le_self _ hf.1
 refine av fun R H h => ?_
 refine aw (fun r => xW _ _ _ _ H) ?_
 refine aG (l := [vp p, vp x]) h fun b H1 h1 => ?_
 refine am h1 ah rfl ?_
 obtain ⟨g, hg, k1⟩ := ef (p := x) (σ := σ) (R := blk b (.cells false [vp p, vp x]) * (eI p σ * R)) (H := H1) h1.to
 unfold ay at k1
 refine aW k1 ac ?_
 refine aO h1 fun b2 H2 h2 => ?_
 refine bX h2 rfl rfl fun H3 h3 => ?_
 refine am h3 ah rfl ?_
 refine af h3 (JX σ.c.un w ⟨by omega, by omega⟩ hw) fun _ H4 h4 => ?_
 refine aa (v := vu (max (σ.c.un / w.toNat) 1)) rfl ?_
 refine aa (v := vb true) rfl ?_
 refine dO ?_
 refine aO h4 fun b3 H5 h5 => ?_
 refine bX h5 rfl rfl fun H6 h6 => ?_
 refine am h6 ah rfl ?_
 refine aL h6 ?_
 refine af h6 (Nr p σ 0 ⟨f, most, max (σ.c.un / w.toNat) 1⟩ (by omega) ho) fun _ H7 h7 => ?_
 refine aI ah ?_
 refine aE h7 rfl ?_
 refine aA h6 h7 rfl ?_
 refine aL h7 ?_
 refine bg h6 h7 rfl ?_
 refine af h7 (akO x σ 0 ⟨f, most, max (σ.c.un / w.toNat) 1⟩ (by omega) ho) fun _ H8 h8 => ?_
 refine aa (bp rfl) ?_
 with_reducible repeat refine gg ?_
 refine am h8 ah rfl ?_
 obtain ⟨gp, hgp, k8⟩ := lK (p := p) (σ := σ.make 0 ⟨f, most, max (σ.c.un / w.toNat) 1⟩) (R := blk b (.cells false [vp p, vp x]) * (blk b2 (.cells false (f0.cells σ.c)) * (bj x (σ.make 0 ⟨f, most, max (σ.c.un / w.toNat) 1⟩) * R))) (H := H8) h8.to
 unfold aH at k8
 with_reducible repeat refine gg ?_
 refine am k8 ac rfl ?_
 with_reducible repeat refine gg ?_
 refine am k8 ah rfl ?_
 with_reducible repeat refine gg ?_
 refine aa (iD (by omega)) ?_
 with_reducible repeat refine gg ?_
 refine am k8 ah rfl ?_
 with_reducible repeat refine gg ?_
 refine aa (sy (by omega) (by omega) (by omega)) ?_
 with_reducible repeat refine gg ?_
 refine af k8 (V0 gp.tb gp.m σ.c.sh.toNat σ.c.sl.toNat (σ.make 0 ⟨f, most, max (σ.c.un / w.toNat) 1⟩).μ 0 (f.tmod σ.c.sh) (f.tdiv σ.c.sh) f σ.obs.length (by simp [a7.make]; omega) hf (by omega)) fun _ H9 k9 => ?_
 have h9 : ae (eI p (σ.lay f w most) * (blk b (.cells false [vp p, vp x]) * (blk b2 (.cells false (f0.cells σ.c)) * (bj x (σ.make 0 ⟨f, most, max (σ.c.un / w.toNat) 1⟩) * R)))) H9 := by
  refine nR gp hgp ?_
  unfold aH
  exact k9.to
 with_reducible repeat refine gg ?_
 refine am h9 ah rfl ?_
 obtain ⟨gx, hgx, l9⟩ := ef (p := x) (σ := σ.make 0 ⟨f, most, max (σ.c.un / w.toNat) 1⟩) (R := blk b (.cells false [vp p, vp x]) * (blk b2 (.cells false (f0.cells σ.c)) * (eI p (σ.lay f w most) * R))) (H := H9) h9.to
 unfold ay at l9
 with_reducible repeat refine gg ?_
 refine am l9 ac rfl ?_
 with_reducible repeat refine gg ?_
 refine am l9 ah rfl ?_
 with_reducible repeat refine gg ?_
 refine aa (iD (by omega)) ?_
 with_reducible repeat refine gg ?_
 refine am l9 ah rfl ?_
 with_reducible repeat refine gg ?_
 refine aa (sy (by omega) (by omega) (by omega)) ?_
 with_reducible repeat refine gg ?_
 refine af l9 (afZ gx.tb gx.m σ.c.sh.toNat σ.c.sl.toNat (σ.make 0 ⟨f, most, max (σ.c.un / w.toNat) 1⟩).μ 0 (f.tmod σ.c.sh) (f.tdiv σ.c.sh) f σ.obs.length (by simp [a7.make]; omega) hf (by omega)) fun _ H10 l10 => ?_
 have h10 : ae (bj x (σ.lay f w most) * (blk b (.cells false [vp p, vp x]) * (blk b2 (.cells false (f0.cells σ.c)) * (eI p (σ.lay f w most) * R)))) H10 := by
  refine cG gx ⟨hgx.1, hgx.2.1, Nat.le_trans hgx.2.2 (by simp [a7.lay, a7.make])⟩ ?_
  unfold ay
  have l11 := lx (L' := σ.μ.N + 2 + 2) (by omega) (ae.fr (A := fw gx.ib gx.m σ.c.sh σ.nx (σ.μ.N + 2)) l10)
  exact l11.to
 with_reducible repeat refine gg ?_
 exact ap ⟨(), rfl, h10.to⟩
end
def a7.made (c : f0) : Nat → a7
 | 0 => a7.new c
 | f + 1 => if (f : Int).tdiv c.sh < c.sl then (a7.made c f).lay f (1 + f) (2 + (f : Int).tmod 2) else a7.made c f
theorem aaA (c : f0) : ∀ n, (a7.made c n).c = c ∧ (a7.made c n).μ.N ≤ 4 * n ∧ (a7.made c n).obs.length ≤ n := by
 intro n
 induction n with
 | zero => exact ⟨rfl, Nat.le_refl _, Nat.le_refl _⟩
 | succ n ih =>
  obtain ⟨h1, h2, h3⟩ := ih
  unfold a7.made
  split
  ·refine ⟨h1, ?_, ?_⟩
   ·simp [a7.lay, a7.make]; omega
   ·simp [a7.lay, a7.make]; omega
  ·exact ⟨h1, by omega, by omega⟩
theorem nT (b : Nat) : ai .ptr .eql (vp b) (.pointer none) = some (vb false) := rfl
theorem Jo (c0 : f0) (n : Nat) (hn : n ≤ 16) : Sp nM [.agg (f0.cells c0).toArray, vi n] emp (fun g : Nat × Nat × f0 => .tuple #[.agg [vp g.1, vp g.2.1].toArray, vb true])
 (fun g => pu (dh g.2.2 = true) * (eI g.1 (a7.made g.2.2 n) * bj g.2.1 (a7.made g.2.2 n))) := by
 refine av fun R H h => ?_
 refine aw (fun r => Jm _ _ H) ?_
 refine aG h fun b H1 h1 => ?_
 refine aO h1 fun b2 H2 h2 => ?_
 refine aL h2 ?_
 refine af h2 (JP c0) fun c H3 h3 => ?_
 rw [ae.pu] at h3
 obtain ⟨hc, h3⟩ := h3
 refine bX h3 rfl rfl fun H4 h4 => ?_
 refine aL h4 ?_
 refine af h4 (Ns c hc) fun p H5 h5 => ?_
 refine aa (v := vp p) rfl ?_
 refine aa (v := vi 0) rfl ?_
 refine aa (xh rfl) ?_
 with_reducible repeat refine gg ?_
 refine aa (nT _) ?_
 with_reducible repeat refine gg ?_
 obtain ⟨g, hg, k5⟩ := lK (p := p) (σ := a7.new c) (R := blk b2 (.cells false [.pointer none, .pointer none]) * (blk b (.cells false (f0.cells c)) * R)) (H := H5) h5.to
 unfold aH at k5
 refine am k5 ac rfl ?_
 with_reducible repeat refine gg ?_
 refine aa (nT _) ?_
 with_reducible repeat refine gg ?_
 refine am k5 ac rfl ?_
 with_reducible repeat refine gg ?_
 refine aa (nT _) ?_
 with_reducible repeat refine gg ?_
 refine am k5 ac rfl ?_
 with_reducible repeat refine gg ?_
 refine aa (nT _) ?_
 with_reducible repeat refine gg ?_
 refine am k5 ac rfl ?_
 with_reducible repeat refine gg ?_
 refine aa (nT _) ?_
 with_reducible repeat refine gg ?_
 refine am k5 ac rfl ?_
 with_reducible repeat refine gg ?_
 refine aa (nT _) ?_
 with_reducible repeat refine gg ?_
 refine aL h5 ?_
 refine af h5 (G0 c hc) fun x H6 h6 => ?_
 refine dO ?_
 refine aO h6 fun b3 H7 h7 => ?_
 refine bX h7 rfl rfl fun H8 h8 => ?_
 refine ag (Bl _ _ _ _ _ H8) ?_
 refine ag (Bn _ _ _ _ _ _ H8) ?_
 have hr := b7.1 hc
 have loop : ∀ (d i : Nat) (H : AH), i + d = n → ae (blk b3 (.cells false [vp p, vp x]) * (blk b2 (.cells false [.pointer none, .pointer none]) * (blk b (.cells false (f0.cells c)) * (eI p (a7.made c i) * (bj x (a7.made c i) * R))))) H →
  wp (ly (vi n) (vp b) (vp b2) (vb false) (vp b3) (vi i) H) fun v' H' => ∃ g : Nat × Nat × f0, v' = .tuple #[.agg [vp g.1, vp g.2.1].toArray, vb true] ∧ ae (pu (dh g.2.2 = true) * (eI g.1 (a7.made g.2.2 n) * bj g.2.1 (a7.made g.2.2 n)) * R) H' := by
  intro d
  induction d with
  | zero =>
   intro i H hi h
   refine ag (pr _ _ _ _ _ _ H) ?_
   refine aa (bu (by omega)) ?_
   with_reducible repeat refine gg ?_
   refine ag (vx _ _ _ H) ?_
   refine ag (Bm _ _ _ H) ?_
   refine aL h ?_
   refine bX h rfl rfl fun H2 h2 => ?_
   refine aL h2 ?_
   refine ap ⟨(p, x, c), rfl, ?_⟩
   rw [ar, ae.pu]
   have e : i = n := by omega
   subst e
   exact ⟨hc, h2.to⟩
  | succ d ih =>
   intro i H hi h
   obtain ⟨m1, m2, m3⟩ := aaA c i
   have q0 : 0 ≤ (i : Int).tdiv c.sh := Int.tdiv_nonneg (by omega) (by omega)
   have q1 : (i : Int).tdiv c.sh ≤ i := Int.tdiv_le_self _ (by omega)
   have t0 : 0 ≤ (i : Int).tmod 2 := Int.tmod_nonneg _ (by omega)
   have t1 : (i : Int).tmod 2 < 2 := Int.tmod_lt_of_pos _ (by omega)
   have next : ∀ {H : AH}, ae (blk b3 (.cells false [vp p, vp x]) * (blk b2 (.cells false [.pointer none, .pointer none]) * (blk b (.cells false (f0.cells c)) * (eI p (a7.made c (i + 1)) * (bj x (a7.made c (i + 1)) * R))))) H →
    wp (pw (vi n) (vp b) (vp b2) (vb false) (vp b3) (vi i) H) fun v' H' => ∃ g : Nat × Nat × f0, v' = .tuple #[.agg [vp g.1, vp g.2.1].toArray, vb true] ∧ ae (pu (dh g.2.2 = true) * (eI g.1 (a7.made g.2.2 n) * bj g.2.1 (a7.made g.2.2 n)) * R) H' := by
    intro H h
    refine ag (Bp _ _ _ _ _ _ H) ?_
    refine aa (aC (by omega) (by omega)) ?_
    exact ih (i + 1) H (by omega) h
   refine ag (pr _ _ _ _ _ _ H) ?_
   refine aa (bI (by omega)) ?_
   with_reducible repeat refine gg ?_
   refine ag (Bo _ _ _ _ _ _ H) ?_
   refine am h ah rfl ?_
   refine aa (sy (by omega) (by omega) (by omega)) ?_
   refine am h ah rfl ?_
   by_cases hf : (i : Int).tdiv c.sh < c.sl
   ·have e : a7.made c (i + 1) = (a7.made c i).lay i (1 + i) (2 + (i : Int).tmod 2) := by show (if _ then _ else _) = _; rw [if_pos hf]
    rw [e] at next
    refine aa (bI hf) ?_
    with_reducible repeat refine gg ?_
    refine aL h ?_
    with_reducible repeat refine gg ?_
    refine aa (aC (by omega) (by omega)) ?_
    with_reducible repeat refine gg ?_
    refine aa (iD (by omega)) ?_
    with_reducible repeat refine gg ?_
    refine aa (aC (by omega) (by omega)) ?_
    with_reducible repeat refine gg ?_
    refine af h (afM p (a7.made c i) x i (1 + i) (2 + (i : Int).tmod 2) (by rw [m1]; exact hc) (by omega) (by omega) (by omega) (by omega)) fun _ H2 h2 => ?_
    with_reducible repeat refine gg ?_
    rw [Bool.not_true]
    with_reducible repeat refine gg ?_
    exact next h2.to
   ·have e : a7.made c (i + 1) = a7.made c i := by show (if _ then _ else _) = _; rw [if_neg hf]
    rw [e] at next
    refine aa (bu hf) ?_
    with_reducible repeat refine gg ?_
    exact next h
 exact loop n 0 H8 (by omega) (show ae (blk b3 (.cells false [vp p, vp x]) * (blk b2 (.cells false [.pointer none, .pointer none]) * (blk b (.cells false (f0.cells c)) * (eI p (a7.new c) * (bj x (a7.new c) * R))))) H8 from h8.to)
theorem xV (x0 x1 x2 : Value) (H : AH) {r : Value × AH} (h : (
 aV (Value.cells x0).toList H fun v0 H1 =>
 (aD 5 v0 H1).bind fun v2 =>
 (FF nM [v2, (vi 4)] H1).bind fun r3 =>
 (aj r3.1 0).bind fun v4 =>
 (aj r3.1 1).bind fun v5 =>
 aV [(.pointer none), (.pointer none)] r3.2 fun v6 H7 =>
 (dn 2 v6 v4 H7).bind fun H8 =>
 (FF lC [] H8).bind fun r9 =>
 (ot .not r9.1).bind fun v10 =>
 (gV v10 false v5).bind fun v11 =>
 (gB v10 false (ot .not v11)).bind fun v12 =>
 (aQ v10 (vb true) v12).bind fun v13 =>
 ax v13
 (some ((vb false), r9.2))
 ((aD 2 v6 r9.2).bind fun v14 =>
 (FF il [x1, (vi 24)] r9.2).bind fun r15 =>
 bD (aD 2 v6 r15.2) (aD 2 v6 r9.2) <|
 (FF Jz [x2, (vi 9), (vi 300)] r15.2).bind fun r16 =>
 bD (aD 2 v6 r16.2) (aD 2 v6 r9.2) <|
 (FF Jy [v14, r15.1, r16.1, (vi 400), (vb false)] r16.2).bind fun r17 =>
 (aj r17.1 0).bind fun v18 =>
 (aj r17.1 1).bind fun v19 =>
 (gB v19 true (aD 2 v6 r17.2)).bind fun v20 =>
 (gE v19 true r17.2 (FF gf [v20] r17.2)).bind fun r21 =>
 (aQ v19 r21.1 (vb false)).bind fun v22 =>
 some (v22, r21.2))) = some r) : FF ik [x0, x1, x2] H = some r :=
 fo Tryz.func6 (by kernel_rfl) h
noncomputable def CU (p : List Nat) : Code := Code.sub (bG Tryz.f7) p
noncomputable def AU : KK := dR PP (Tryz.f7).results.toList
noncomputable def ag1 : KK := CQ (CU [1, 1, 1, 1]) AU bq AU
noncomputable def oo (x1 x3 x8 x9 x11 : Value) (H : AH) : OV := ag1 (ls [u, x1, u, x3, u, u, u, u, x8, x9, u, x11] 60) H
noncomputable def Zb : KK := CQ (CU [1, 1, 1, 1, 1]) AU bq AU
noncomputable def ag0 : KK := dd 4722366482869645210877 Zb
noncomputable def oq (x1 x8 x9 x11 : Value) (H : AH) : OV := Zb (ls [u, x1, u, u, u, u, u, u, x8, x9, u, x11] 60) H
noncomputable def Zc : KK := CQ (CU [1, 1, 1, 1, 0, 1]) ag0 bq AU
noncomputable def mM (x1 x3 x8 x9 x11 x12 : Value) (H : AH) : OV := Zc (ls [u, x1, u, x3, u, u, u, u, x8, x9, u, x11, x12] 59) H
noncomputable def ML : KX := BX 0 ag0 bq
noncomputable def Gl : KX := ml 4722366482869645210877 ML
noncomputable def MJ : KK := ri (CU [1, 1, 1, 1, 0, 1, 4, 5]) Gl AU
noncomputable def Za : KK := dd 4722366482869645206773 MJ
noncomputable def fy (x1 x3 x8 x9 x11 x12 : Value) (H : AH) : OV := MJ (ls [u, x1, u, x3, u, u, u, u, x8, x9, u, x11, x12] 59) H
noncomputable def Ze : KK := CQ (CU [1, 1, 1, 1, 0, 1, 4, 5, 1]) Za Gl AU
noncomputable def mN (x1 x3 x8 x9 x11 x12 : Value) (H : AH) : OV := Ze (ls [u, x1, u, x3, u, u, u, u, x8, x9, u, x11, x12] 59) H
noncomputable def MK : KK := CQ (CU [1, 1, 1, 1, 0, 1, 4, 5, 1, 1]) Za Gl AU
noncomputable def aiT : KK := dd 4722366482869645206773 MK
noncomputable def mO (x1 x3 x8 x9 x11 x12 : Value) (H : AH) : OV := MK (ls [u, x1, u, x3, u, u, u, u, x8, x9, u, x11, x12] 59) H
noncomputable def aiU : KX := BX 1 aiT Gl
noncomputable def gA (x1 x8 x9 x11 : Value) (H : AH) : OV := ML 0 (ls [u, x1, u, u, u, u, u, u, x8, x9, u, x11] 60) H
theorem pa : au 4722366482869645213439 AU := rf
theorem afF : au 4722366482869645210869 ag1 := rc pa aB pa
theorem Gk : au 4722366482869645210877 Zb := rc pa aB pa
theorem Zd : au 4722366482869645206773 Zc := rc (cd Gk) aB pa
theorem pc : ∀ i, au 4722366482869645210877 (ML i) := rb (cd Gk) aB
theorem tG : au 4722366482869645206773 MJ := rl (cx pc) pa
theorem Zf : au 4722366482869645206773 Ze := rc (cd tG) (cx pc) pa
theorem I5 : au 4722366482869645206773 MK := rc (cd tG) (cx pc) pa
theorem Zg : ∀ i, au 4722366482869645206773 (aiU i) := rb (cd I5) (cx pc)
theorem sa (x1 x8 x9 x11 : Value) (H : AH) : oq x1 x8 x9 x11 H =
 (aD 2 x9 H).bind fun v2 =>
 (FF il [x1, (vi 24)] H).bind fun r3 =>
 bD (aD 2 x9 r3.2) (aD 2 x9 H) <|
 (FF Jy [v2, r3.1, x11, (vi 400), (vb true)] r3.2).bind fun r4 =>
 (aj r4.1 0).bind fun v5 =>
 (aj r4.1 1).bind fun v6 =>
 (gB v6 true (aD 2 x9 r4.2)).bind fun v7 =>
 (gE v6 true r4.2 (FF gf [v7] r4.2)).bind fun r8 =>
 (aQ v6 r8.1 (vb false)).bind fun v9 =>
 some (v9, r8.2) :=
 (by kernel_rfl)
theorem qU (x1 x3 x8 x9 x11 x12 : Value) (H : AH) : mO x1 x3 x8 x9 x11 x12 H =
 (ai .other .add x12 (vi 1)).bind fun v15 =>
 fy x1 x3 x8 x9 x11 v15 H :=
 (by kernel_rfl)
theorem qT (x1 x3 x8 x9 x11 x12 : Value) (H : AH) : mN x1 x3 x8 x9 x11 x12 H =
 ad [.i 1 x12] x3 fun v17 =>
 (aq v17 H).bind fun v18 =>
 ld [.i 1 x12] x3 H fun v19 =>
 (FF a9 [v19, (vi 40)] H).bind fun r20 =>
 bD (aq v17 r20.2) (aq v17 H) <|
 (ai .other .mul (vi 9) r20.1).bind fun v21 =>
 (ai .other .add (vi 8) v21).bind fun v22 =>
 ad [.i 1 x12] x3 fun v23 =>
 (aq v23 r20.2).bind fun v24 =>
 bD (aq v23 H) (aq v23 r20.2) <|
 (ai .other .add v24 (vi 1)).bind fun v25 =>
 ad [.i 1 x12] x3 fun v26 =>
 (aq v26 r20.2).bind fun v27 =>
 bD (aq v26 H) (aq v26 r20.2) <|
 vJ 4 1 [(vi 0)] [(0, v18), (1, v22), (2, v25), (3, v27)] r20.2 fun v28 H29 =>
 (dq 1 8 x11 v28 H29).bind fun r30 =>
 mO x1 x3 x8 x9 r30.1 x12 r30.2 :=
 (pt rfl 0 I5 (bt rfl (CU [1, 1, 1, 1, 0, 1, 4, 5, 1, 0, 4]) 1 Zg (by kernel_rfl)))
theorem oG (x1 x8 x9 x11 : Value) (H : AH) : gA x1 x8 x9 x11 H = oq x1 x8 x9 x11 H :=
 (by kernel_rfl)
theorem jQ (x1 x3 x8 x9 x11 x12 : Value) (H : AH) : fy x1 x3 x8 x9 x11 x12 H =
 dG x3 fun v31 =>
 (ai .other .lss x12 v31).bind fun v32 =>
 (gV v32 true x12).bind fun v33 =>
 (gB v32 true (ai .other .lss v33 (vi 30))).bind fun v34 =>
 (aQ v32 v34 (vb false)).bind fun v35 =>
 ax v35
 (mN x1 x3 x8 x9 x11 x12 H)
 (gA x1 x8 x9 x11 H) :=
 rG rfl tG (pt rfl 0 Zf (by kernel_rfl))
theorem qS (x1 x3 x8 x9 x11 x12 : Value) (H : AH) : mM x1 x3 x8 x9 x11 x12 H =
 fy x1 x3 x8 x9 x11 x12 H :=
 (bt rfl (CU [1, 1, 1, 1, 0, 1, 4]) 0 pc (li rfl (CU [1, 1, 1, 1, 0, 1, 4, 5]) tG (by kernel_rfl)))
theorem rZ (x1 x3 x8 x9 x11 : Value) (H : AH) : oo x1 x3 x8 x9 x11 H =
 mM x1 x3 x8 x9 x11 (vi 0) H :=
 (pt rfl 0 Gk (pt rfl 0 Zd (by kernel_rfl)))
noncomputable def Gx (x0 x1 x2 x3 : Value) (H : AH) : OV := aU PP GG FF (CU []) (ls [x0, x1, x2, x3] 68) H AU bq AU
theorem xS (x0 x1 x2 x3 : Value) (H : AH) {r : Value × AH} (h : (
 aV (Value.cells x0).toList H fun v36 H37 =>
 (aD 5 v36 H37).bind fun v38 =>
 (FF nM [v38, (vi 4)] H37).bind fun r39 =>
 (aj r39.1 0).bind fun v40 =>
 (aj r39.1 1).bind fun v41 =>
 aV [(.pointer none), (.pointer none)] r39.2 fun v42 H43 =>
 (dn 2 v42 v40 H43).bind fun H44 =>
 (FF lC [] H44).bind fun r45 =>
 (ot .not r45.1).bind fun v46 =>
 (gV v46 false v41).bind fun v47 =>
 (gB v46 false (ot .not v47)).bind fun v48 =>
 (aQ v46 (vb true) v48).bind fun v49 =>
 ax v49
 (some ((vb false), r45.2))
 ((FF Jz [x2, (vi 9), (vi 200)] r45.2).bind fun r50 =>
 oo x1 x3 (vb false) v42 r50.1 r50.2)) = some r) : FF ij [x0, x1, x2, x3] H = some r :=
 fo (t := Gx x0 x1 x2 x3 H) Tryz.func7 (by kernel_rfl) (Eq.trans (pt rfl 3 afF (by kernel_rfl)) h)
theorem vD (x0 : Value) (H : AH) {r : Value × AH} (h : (
 aV (Value.cells x0).toList H fun v0 H1 =>
 ld [.f 0] v0 H1 fun v2 =>
 ld [.n, .f 0] v2 H1 fun v3 =>
 (FF fC [v3] H1).bind fun r4 =>
 ad [.f 1] v0 fun v5 =>
 (aq v5 r4.2).bind fun v6 =>
 bD (aq v5 H1) (aq v5 r4.2) <|
 ad [.n, .f 5] v6 fun v7 =>
 (aq v7 r4.2).bind fun v8 =>
 bD (aq v7 H1) (aq v7 r4.2) <|
 ad [.n, .f 2] v8 fun v9 =>
 (aq v9 r4.2).bind fun v10 =>
 bD (aq v9 H1) (aq v9 r4.2) <|
 (FF dm [r4.1, v10] r4.2).bind fun r11 =>
 fu r11.1 true  [.f 0] v0 r11.2 fun v12 =>
 (gE r11.1 true r11.2 (FF aaK [v12] r11.2)).bind fun r13 =>
 A7 r11.1 true  [.f 1] v0 fun v14 =>
 (gB r11.1 true (aq v14 r13.2)).bind fun v15 =>
 bD (aq v14 r11.2) (aq v14 r13.2) <|
 A7 r11.1 true  [.n, .f 13] v15 fun v16 =>
 (gB r11.1 true (aq v16 r13.2)).bind fun v17 =>
 bD (aq v16 r11.2) (aq v16 r13.2) <|
 (gE r11.1 true r13.2 (FF nK [r13.1, v17, (.func (.func dA) #[] #[])] r13.2)).bind fun r18 =>
 (aQ r11.1 r18.1 (vb false)).bind fun v19 =>
 some (v19, r18.2)) = some r) : FF gf [x0] H = some r :=
 fo Tryz.func20 (by kernel_rfl) h
theorem q8 (x0 x1 : Value) (H : AH) {r : Value × AH} (h : (
 ld [.n, .f 0] x0 H fun v0 =>
 g6 [(0, 1), (1, 1), (2, 1)] [(vi 0), (vi 0), (vi 0)] [(0, (vi 2))] fun v1 =>
 (FF eH [v0, x1, v1, (vw 1)] H).bind fun r2 =>
 some (Value.tuple #[], r2.2)) = some r) : FF gH [x0, x1] H = some r :=
 fo Tryz.func22 (by kernel_rfl) h
theorem uv (x0 x1 : Value) (H : AH) {r : Value × AH} (h : (
 ad [.n, .f 5] x0 fun v0 =>
 (aq v0 H).bind fun v1 =>
 (FF bB [(vi 2), (vi 0), (vi 0)] H).bind fun r2 =>
 bD (aq v0 r2.2) (aq v0 H) <|
 (FF ga [v1, x1, r2.1, (vw 1)] r2.2).bind fun r3 =>
 some (Value.tuple #[], r3.2)) = some r) : FF i5 [x0, x1] H = some r :=
 fo Tryz.func23 (by kernel_rfl) h
noncomputable def fL (p : List Nat) : Code := Code.sub (bG Tryz.f24) p
noncomputable def f5 : KK := dR PP (Tryz.f24).results.toList
noncomputable def XE : KK := CQ (fL [1, 1, 1, 1, 1]) f5 bq f5
noncomputable def Z4 (x1 x2 x3 x4 x5 x10 x11 x12 x13 x14 x15 : Value) (H : AH) : OV := XE (ls [u, x1, x2, x3, x4, x5, u, u, u, u, x10, x11, x12, x13, x14, x15] 177) H
noncomputable def Mc : KK := CQ (fL [1, 1, 1, 1, 1, 1]) f5 bq f5
noncomputable def XB : KK := dd 12554203470773361527671578846415332832204710888928068998141 Mc
noncomputable def MX (x1 x10 x11 x13 x14 : Value) (H : AH) : OV := Mc (ls [u, x1, u, u, u, u, u, u, u, u, x10, x11, u, x13, x14] 178) H
noncomputable def Md : KK := CQ (fL [1, 1, 1, 1, 1, 1, 1]) f5 bq f5
noncomputable def XC : KK := dd 12554203470773361527671578846415332832204710888928069022719 Md
noncomputable def Z5 (x10 x11 : Value) (H : AH) : OV := Md (ls [u, u, u, u, u, u, u, u, u, u, x10, x11] 181) H
noncomputable def XG : KK := CQ (fL [1, 1, 1, 1, 1, 1, 0, 1]) XC bq f5
noncomputable def Z6 (x1 x10 x11 x13 x14 x22 : Value) (H : AH) : OV := XG (ls [u, x1, u, u, u, u, u, u, u, u, x10, x11, u, x13, x14, u, u, u, u, u, u, u, x22] 170) H
noncomputable def Mg : KX := BX 2 XC bq
noncomputable def F0 : KX := ml 12554203470773361527671578846415332832204710888928069022719 Mg
noncomputable def Me : KK := ri (fL [1, 1, 1, 1, 1, 1, 0, 1, 4, 5]) F0 f5
noncomputable def XD : KK := dd 12554203470773361527671578846415332832204710888928064803837 Me
noncomputable def Gz (x1 x10 x11 x13 x14 x22 : Value) (H : AH) : OV := Me (ls [u, x1, u, u, u, u, u, u, u, u, x10, x11, u, x13, x14, u, u, u, u, u, u, u, x22] 170) H
noncomputable def XI : KK := CQ (fL [1, 1, 1, 1, 1, 1, 0, 1, 4, 5, 1]) XD F0 f5
noncomputable def Z7 (x1 x10 x11 x13 x14 x22 : Value) (H : AH) : OV := XI (ls [u, x1, u, u, u, u, u, u, u, u, x10, x11, u, x13, x14, u, u, u, u, u, u, u, x22] 170) H
noncomputable def Mf : KK := CQ (fL [1, 1, 1, 1, 1, 1, 0, 1, 4, 5, 1, 1]) XD F0 f5
noncomputable def aiH : KK := dd 12554203470773361527671578846415332832204710888928064803837 Mf
noncomputable def M5 (x1 x10 x11 x13 x14 x22 : Value) (H : AH) : OV := Mf (ls [u, x1, u, u, u, u, u, u, u, u, x10, x11, u, x13, x14, u, u, u, u, u, u, u, x22] 170) H
noncomputable def aiI : KX := BX 3 aiH F0
noncomputable def Jp (x10 x11 : Value) (H : AH) : OV := Mg 2 (ls [u, u, u, u, u, u, u, u, u, u, x10, x11] 181) H
noncomputable def Qb : KK := CQ (fL [1, 1, 1, 1, 1, 0, 1]) XB bq f5
noncomputable def QR (x1 x2 x3 x4 x5 x10 x11 x12 x13 x14 x15 x16 : Value) (H : AH) : OV := Qb (ls [u, x1, x2, x3, x4, x5, u, u, u, u, x10, x11, x12, x13, x14, x15, x16] 176) H
noncomputable def FY : KX := BX 0 XB bq
noncomputable def yU : KX := ml 12554203470773361527671578846415332832204710888928068998141 FY
noncomputable def FW : KK := ri (fL [1, 1, 1, 1, 1, 0, 1, 4, 5]) yU f5
noncomputable def Qa : KK := dd 12554203470773361527671578846415332832204710888928068895681 FW
noncomputable def y7 (x1 x2 x3 x4 x5 x10 x11 x12 x13 x14 x15 x16 : Value) (H : AH) : OV := FW (ls [u, x1, x2, x3, x4, x5, u, u, u, u, x10, x11, x12, x13, x14, x15, x16] 176) H
noncomputable def Qc : KK := CQ (fL [1, 1, 1, 1, 1, 0, 1, 4, 5, 1]) Qa yU f5
noncomputable def QS (x1 x2 x3 x4 x5 x10 x11 x12 x13 x14 x15 x16 : Value) (H : AH) : OV := Qc (ls [u, x1, x2, x3, x4, x5, u, u, u, u, x10, x11, x12, x13, x14, x15, x16] 176) H
noncomputable def FX : KK := CQ (fL [1, 1, 1, 1, 1, 0, 1, 4, 5, 1, 1]) Qa yU f5
noncomputable def tw : KK := dd 12554203470773361527671578846415332832204710888928068895681 FX
noncomputable def tV (x1 x2 x3 x4 x5 x10 x11 x12 x13 x14 x15 x16 : Value) (H : AH) : OV := FX (ls [u, x1, x2, x3, x4, x5, u, u, u, u, x10, x11, x12, x13, x14, x15, x16] 176) H
noncomputable def FZ : KX := BX 1 tw yU
noncomputable def yV : KX := ml 12554203470773361527671578846415332832204710888928068895681 FZ
noncomputable def Qd : KK := CQ (fL [1, 1, 1, 1, 1, 0, 1, 4, 5, 1, 0, 4, 1]) tw yV f5
noncomputable def QT (x1 x2 x3 x4 x5 x10 x11 x12 x13 x14 x15 x16 x17 : Value) (H : AH) : OV := Qd (ls [u, x1, x2, x3, x4, x5, u, u, u, u, x10, x11, x12, x13, x14, x15, x16, x17] 175) H
noncomputable def Qe : KK := CQ (fL [1, 1, 1, 1, 1, 0, 1, 4, 5, 1, 0, 4, 1, 1]) tw yV f5
noncomputable def tW (x1 x2 x3 x4 x5 x10 x11 x12 x13 x14 x15 x16 x17 : Value) (H : AH) : OV := Qe (ls [u, x1, x2, x3, x4, x5, u, u, u, u, x10, x11, x12, x13, x14, x15, x16, x17] 175) H
noncomputable def Qf : KK := CQ (fL [1, 1, 1, 1, 1, 0, 1, 4, 5, 1, 0, 4, 1, 1, 1]) tw yV f5
noncomputable def QU (x1 x2 x3 x4 x5 x10 x11 x12 x13 x14 x15 x16 x17 : Value) (H : AH) : OV := Qf (ls [u, x1, x2, x3, x4, x5, u, u, u, u, x10, x11, x12, x13, x14, x15, x16, x17] 175) H
noncomputable def Qg : KK := CQ (fL [1, 1, 1, 1, 1, 0, 1, 4, 5, 1, 0, 4, 1, 1, 1, 1]) tw yV f5
noncomputable def y8 (x1 x2 x3 x4 x5 x10 x11 x12 x13 x14 x15 x16 x17 : Value) (H : AH) : OV := Qg (ls [u, x1, x2, x3, x4, x5, u, u, u, u, x10, x11, x12, x13, x14, x15, x16, x17] 175) H
noncomputable def qE (x1 x2 x3 x4 x5 x10 x11 x12 x13 x14 x15 x16 : Value) (H : AH) : OV := FZ 1 (ls [u, x1, x2, x3, x4, x5, u, u, u, u, x10, x11, x12, x13, x14, x15, x16] 176) H
noncomputable def DT (x1 x10 x11 x13 x14 : Value) (H : AH) : OV := FY 0 (ls [u, x1, u, u, u, u, u, u, u, u, x10, x11, u, x13, x14] 178) H
theorem dl : au 12554203470773361527671578846415332832204710888928069022719 f5 := rf
theorem XF : au 12554203470773361527671578846415332832204710888928068961217 XE := rc dl aB dl
theorem AA : au 12554203470773361527671578846415332832204710888928068998141 Mc := rc dl aB dl
theorem AB : au 12554203470773361527671578846415332832204710888928069022719 Md := rc dl aB dl
theorem XH : au 12554203470773361527671578846415332832204710888928064803837 XG := rc (cd AB) aB dl
theorem o3 : ∀ i, au 12554203470773361527671578846415332832204710888928069022719 (Mg i) := rb (cd AB) aB
theorem tx : au 12554203470773361527671578846415332832204710888928064803837 Me := rl (cx o3) dl
theorem XJ : au 12554203470773361527671578846415332832204710888928064803837 XI := rc (cd tx) (cx o3) dl
theorem IX : au 12554203470773361527671578846415332832204710888928064803837 Mf := rc (cd tx) (cx o3) dl
theorem XK : ∀ i, au 12554203470773361527671578846415332832204710888928064803837 (aiI i) := rb (cd IX) (cx o3)
theorem TL : au 12554203470773361527671578846415332832204710888928068895681 Qb := rc (cd AA) aB dl
theorem mD : ∀ i, au 12554203470773361527671578846415332832204710888928068998141 (FY i) := rb (cd AA) aB
theorem qv : au 12554203470773361527671578846415332832204710888928068895681 FW := rl (cx mD) dl
theorem TM : au 12554203470773361527671578846415332832204710888928068895681 Qc := rc (cd qv) (cx mD) dl
theorem j4 : au 12554203470773361527671578846415332832204710888928068895681 FX := rc (cd qv) (cx mD) dl
theorem mE : ∀ i, au 12554203470773361527671578846415332832204710888928068895681 (FZ i) := rb (cd j4) (cx mD)
theorem TN : au 12554203470773361527671578846415332832204710888928068764609 Qd := rc (cd j4) (cx mE) dl
theorem TO : au 12554203470773361527671578846415332832204710888928068764609 Qe := rc (cd j4) (cx mE) dl
theorem TQ : au 12554203470773361527671578846415332832204710888928068764609 Qf := rc (cd j4) (cx mE) dl
theorem TS : au 12554203470773361527671578846415332832204710888928068764609 Qg := rc (cd j4) (cx mE) dl
theorem Ur (x10 x11 : Value) (H : AH) : Z5 x10 x11 H =
 some (Value.tuple #[(vb true), (vb true)], H) :=
 (by kernel_rfl)
theorem Uu (x1 x10 x11 x13 x14 x22 : Value) (H : AH) : M5 x1 x10 x11 x13 x14 x22 H =
 (ai .other .add x22 (vi 1)).bind fun v8 =>
 Gz x1 x10 x11 x13 x14 v8 H :=
 (by kernel_rfl)
theorem Ut (x1 x10 x11 x13 x14 x22 : Value) (H : AH) : Z7 x1 x10 x11 x13 x14 x22 H =
 ld [.a 4 1 x22] x13 H fun v10 =>
 (ai .ptr .neq v10 (.pointer none)).bind fun v11 =>
 (gV v11 false x22).bind fun v12 =>
 fu v11 false  [.a 4 1 v12] x14 H fun v13 =>
 (gV v11 false x1).bind fun v14 =>
 (gV v11 false x22).bind fun v15 =>
 fu v11 false  [.i 1 v15] v14 H fun v16 =>
 (uY (yv v11) false (dG v16 some) (some undef)).bind fun v17 =>
 (gB v11 false (ai .other .lss v13 v17)).bind fun v18 =>
 (aQ v11 (vb true) v18).bind fun v19 =>
 ax v19
 (some (Value.tuple #[(vb false), (vb true)], H))
 (M5 x1 x10 x11 x13 x14 x22 H) :=
 (pt rfl 0 IX (bt rfl (fL [1, 1, 1, 1, 1, 1, 0, 1, 4, 5, 1, 0, 4]) 3 XK (by kernel_rfl)))
theorem Jq (x10 x11 : Value) (H : AH) : Jp x10 x11 H = Z5 x10 x11 H :=
 (by kernel_rfl)
theorem DU (x1 x10 x11 x13 x14 x22 : Value) (H : AH) : Gz x1 x10 x11 x13 x14 x22 H =
 (ai .other .lss x22 (vi 4)).bind fun v20 =>
 (gV v20 true x22).bind fun v21 =>
 (gV v20 true x1).bind fun v22 =>
 (uY (yv v20) true (dG v22 some) (some undef)).bind fun v23 =>
 (gB v20 true (ai .other .lss v21 v23)).bind fun v24 =>
 (aQ v20 v24 (vb false)).bind fun v25 =>
 ax v25
 (Z7 x1 x10 x11 x13 x14 x22 H)
 (Jp x10 x11 H) :=
 rG rfl tx (pt rfl 0 XJ (by kernel_rfl))
theorem Us (x1 x10 x11 x13 x14 x22 : Value) (H : AH) : Z6 x1 x10 x11 x13 x14 x22 H =
 Gz x1 x10 x11 x13 x14 x22 H :=
 (bt rfl (fL [1, 1, 1, 1, 1, 1, 0, 1, 4]) 2 o3 (li rfl (fL [1, 1, 1, 1, 1, 1, 0, 1, 4, 5]) tx (by kernel_rfl)))
theorem Uq (x1 x10 x11 x13 x14 : Value) (H : AH) : MX x1 x10 x11 x13 x14 H =
 Z6 x1 x10 x11 x13 x14 (vi 0) H :=
 (pt rfl 0 AB (pt rfl 0 XH (by kernel_rfl)))
theorem M1 (x1 x2 x3 x4 x5 x10 x11 x12 x13 x14 x15 x16 : Value) (H : AH) : tV x1 x2 x3 x4 x5 x10 x11 x12 x13 x14 x15 x16 H =
 (ai .other .add x16 (vi 1)).bind fun v31 =>
 y7 x1 x2 x3 x4 x5 x10 x11 x12 x13 x14 x15 v31 H :=
 (by kernel_rfl)
theorem M4 (x1 x2 x3 x4 x5 x10 x11 x12 x13 x14 x15 x16 x17 : Value) (H : AH) : y8 x1 x2 x3 x4 x5 x10 x11 x12 x13 x14 x15 x16 x17 H =
 ld [.a 4 1 x17] x12 H fun v37 =>
 (FF vL [v37, x15] H).bind fun r38 =>
 (aj r38.1 0).bind fun v39 =>
 (aj r38.1 1).bind fun v40 =>
 aV [(vi 0), (.slice none 0 0), (vi 0), (vw 0)] r38.2 fun v41 H42 =>
 (dn 4 v41 v39 H42).bind fun H43 =>
 ld [.a 4 1 x17] x13 H43 fun v44 =>
 (FF dB [v44, x15] H43).bind fun r45 =>
 (ai .bool .neq v40 r45.1).bind fun v46 =>
 (gB v46 false (aD 4 v41 r45.2)).bind fun v47 =>
 (gV v46 false x17).bind fun v48 =>
 fu v46 false  [.a 4 1 v48] x13 r45.2 fun v49 =>
 (gV v46 false r45.1).bind fun v50 =>
 (gE v46 false r45.2 (FF sj [v49, v50] r45.2)).bind fun r51 =>
 bD (aD 4 v41 r51.2) (aD 4 v41 r45.2) <|
 (gE v46 false r51.2 (FF nL [v47, r51.1] r51.2)).bind fun r52 =>
 (gB v46 false (ot .not r52.1)).bind fun v53 =>
 (aQ v46 (vb true) v53).bind fun v54 =>
 fu v54 false  [.f 0] x5 r52.2 fun v55 =>
 fu v54 false  [.n, .f 0] v55 r52.2 fun v56 =>
 (gE v54 false r52.2 (FF f8 [v56] r52.2)).bind fun r57 =>
 A7 v54 false  [.f 1] x5 fun v58 =>
 (gB v54 false (aq v58 r57.2)).bind fun v59 =>
 bD (aq v58 r52.2) (aq v58 r57.2) <|
 A7 v54 false  [.n, .f 5] v59 fun v60 =>
 (gB v54 false (aq v60 r57.2)).bind fun v61 =>
 bD (aq v60 r52.2) (aq v60 r57.2) <|
 A7 v54 false  [.n, .f 2] v61 fun v62 =>
 (gB v54 false (aq v62 r57.2)).bind fun v63 =>
 bD (aq v62 r52.2) (aq v62 r57.2) <|
 (uY (yv v54) false (dG v63 some) (some undef)).bind fun v64 =>
 bD (afN v63) (afN v63) <|
 (gB v54 false (ai .other .neq r57.1 v64)).bind fun v65 =>
 (aQ v54 (vb true) v65).bind fun v66 =>
 ax v66
 (some (Value.tuple #[(vb false), (vb false)], r57.2))
 ((ai .other .add x15 (vi 1)).bind fun v67 =>
 ax r45.1
 (st 1 [.a 4 1 x17] x13 (.pointer none) r57.2 fun H68 =>
 tV x1 x2 x3 x4 x5 x10 x11 x12 x13 x14 v67 x16 H68)
 (tV x1 x2 x3 x4 x5 x10 x11 x12 x13 x14 v67 x16 r57.2)) :=
 (by kernel_rfl)
theorem Br (x1 x2 x3 x4 x5 x10 x11 x12 x13 x14 x15 x16 x17 : Value) (H : AH) : QU x1 x2 x3 x4 x5 x10 x11 x12 x13 x14 x15 x16 x17 H =
 ld [.a 4 1 x17] x13 H fun v69 =>
 (ai .ptr .eql v69 (.pointer none)).bind fun v70 =>
 ax v70
 (ld [.i 1 x17] x1 H fun v71 =>
 ld [.a 4 1 x17] x14 H fun v72 =>
 ldN 4 [.i 4 v72] v71 H fun v73 =>
 aV [(vi 0), (vi 0), (vi 0), (vi 0)] H fun v74 H75 =>
 (dn 4 v74 v73 H75).bind fun H76 =>
 (aD 2 x5 H76).bind fun v77 =>
 ld [.a 4 1 x17] x14 H76 fun v78 =>
 (FF i0 [v77, x17, v78] H76).bind fun r79 =>
 ld [.f 0] x5 r79.2 fun v80 =>
 (aD 4 v74 r79.2).bind fun v81 =>
 (FF vM [v80, x17, v81] r79.2).bind fun r82 =>
 ad [.f 1] x5 fun v83 =>
 (aq v83 r82.2).bind fun v84 =>
 bD (aq v83 r79.2) (aq v83 r82.2) <|
 (aD 4 v74 r82.2).bind fun v85 =>
 bD (aD 4 v74 r79.2) (aD 4 v74 r82.2) <|
 (FF mi [v84, x17, v85] r82.2).bind fun r86 =>
 st 1 [.a 4 1 x17] x12 r82.1 r86.2 fun H87 =>
 st 1 [.a 4 1 x17] x13 r86.1 H87 fun H88 =>
 ld [.a 4 1 x17] x14 H88 fun v89 =>
 (ai .other .add v89 (vi 1)).bind fun v90 =>
 st 1 [.a 4 1 x17] x14 v90 H88 fun H91 =>
 ld [.a 4 1 x17] x12 H91 fun v92 =>
 (ai .ptr .eql v92 (.pointer none)).bind fun v93 =>
 ax v93
 (some (Value.tuple #[(vb false), (vb false)], H91))
 (y8 x1 x2 x3 x4 x5 x10 x11 x12 x13 x14 x15 x16 x17 H91))
 (y8 x1 x2 x3 x4 x5 x10 x11 x12 x13 x14 x15 x16 x17 H) :=
 (pt rfl 0 TS (by kernel_rfl))
theorem tU (x1 x2 x3 x4 x5 x10 x11 x12 x13 x14 x15 x16 : Value) (H : AH) : qE x1 x2 x3 x4 x5 x10 x11 x12 x13 x14 x15 x16 H = tV x1 x2 x3 x4 x5 x10 x11 x12 x13 x14 x15 x16 H :=
 (by kernel_rfl)
theorem M3 (x1 x2 x3 x4 x5 x10 x11 x12 x13 x14 x15 x16 x17 : Value) (H : AH) : tW x1 x2 x3 x4 x5 x10 x11 x12 x13 x14 x15 x16 x17 H =
 ld [.a 4 1 x17] x13 H fun v94 =>
 (ai .ptr .eql v94 (.pointer none)).bind fun v95 =>
 (gV v95 true x17).bind fun v96 =>
 (gV v95 true x1).bind fun v97 =>
 (uY (yv v95) true (dG v97 some) (some undef)).bind fun v98 =>
 (gB v95 true (ai .other .geq v96 v98)).bind fun v99 =>
 (gV v95 true v99).bind fun v100 =>
 (gV v100 false x17).bind fun v101 =>
 fu v100 false  [.a 4 1 v101] x14 H fun v102 =>
 (gV v100 false x1).bind fun v103 =>
 (gV v100 false x17).bind fun v104 =>
 fu v100 false  [.i 1 v104] v103 H fun v105 =>
 (uY (yv v100) false (dG v105 some) (some undef)).bind fun v106 =>
 (gB v100 false (ai .other .geq v102 v106)).bind fun v107 =>
 (gB v95 true (aQ v100 (vb true) v107)).bind fun v108 =>
 (aQ v95 v108 (vb false)).bind fun v109 =>
 ax v109
 (qE x1 x2 x3 x4 x5 x10 x11 x12 x13 x14 x15 x16 H)
 (QU x1 x2 x3 x4 x5 x10 x11 x12 x13 x14 x15 x16 x17 H) :=
 (pt rfl 0 TQ (by kernel_rfl))
theorem M2 (x1 x2 x3 x4 x5 x10 x11 x12 x13 x14 x15 x16 x17 : Value) (H : AH) : QT x1 x2 x3 x4 x5 x10 x11 x12 x13 x14 x15 x16 x17 H =
 dG x2 fun v110 =>
 (ai .other .lss x16 v110).bind fun v111 =>
 ax v111
 (ld [.i 1 x16] x2 H fun v112 =>
 (FF a9 [v112, (vi 9)] H).bind fun r113 =>
 (ai .other .eql r113.1 (vi 8)).bind fun v114 =>
 (gV v114 true x4).bind fun v115 =>
 (aQ v114 v115 (vb false)).bind fun v116 =>
 ax v116
 ((aD 2 x5 r113.2).bind fun v117 =>
 ld [.i 1 x16] x2 r113.2 fun v118 =>
 (ai .other .quo v118 (vi 9)).bind fun v119 =>
 (ai .other .add v119 x16).bind fun v120 =>
 (FF jJ [v117, v120] r113.2).bind fun r121 =>
 (ot .not r121.1).bind fun v122 =>
 ax v122
 (some (Value.tuple #[(vb false), (vb false)], r121.2))
 (qE x1 x2 x3 x4 x5 x10 x11 x12 x13 x14 x15 x16 r121.2))
 ((ai .other .rem r113.1 (vi 4)).bind fun v123 =>
 tW x1 x2 x3 x4 x5 x10 x11 x12 x13 x14 x15 x16 v123 r113.2))
 (tW x1 x2 x3 x4 x5 x10 x11 x12 x13 x14 x15 x16 x17 H) :=
 (pt rfl 0 TO (by kernel_rfl))
theorem MZ (x1 x2 x3 x4 x5 x10 x11 x12 x13 x14 x15 x16 : Value) (H : AH) : QS x1 x2 x3 x4 x5 x10 x11 x12 x13 x14 x15 x16 H =
 (ai .other .rem x16 (vi 4)).bind fun v124 =>
 QT x1 x2 x3 x4 x5 x10 x11 x12 x13 x14 x15 x16 v124 H :=
 (pt rfl 0 j4 (bt rfl (fL [1, 1, 1, 1, 1, 0, 1, 4, 5, 1, 0, 4]) 1 mE (pt rfl 0 TN (by kernel_rfl))))
theorem Gy (x1 x10 x11 x13 x14 : Value) (H : AH) : DT x1 x10 x11 x13 x14 H = MX x1 x10 x11 x13 x14 H :=
 (by kernel_rfl)
theorem Bq (x1 x2 x3 x4 x5 x10 x11 x12 x13 x14 x15 x16 : Value) (H : AH) : y7 x1 x2 x3 x4 x5 x10 x11 x12 x13 x14 x15 x16 H =
 (ai .other .lss x16 x3).bind fun v125 =>
 ax v125
 (QS x1 x2 x3 x4 x5 x10 x11 x12 x13 x14 x15 x16 H)
 (DT x1 x10 x11 x13 x14 H) :=
 rG rfl qv (pt rfl 0 TM (by kernel_rfl))
theorem MY (x1 x2 x3 x4 x5 x10 x11 x12 x13 x14 x15 x16 : Value) (H : AH) : QR x1 x2 x3 x4 x5 x10 x11 x12 x13 x14 x15 x16 H =
 y7 x1 x2 x3 x4 x5 x10 x11 x12 x13 x14 x15 x16 H :=
 (bt rfl (fL [1, 1, 1, 1, 1, 0, 1, 4]) 0 mD (li rfl (fL [1, 1, 1, 1, 1, 0, 1, 4, 5]) qv (by kernel_rfl)))
theorem Uo (x1 x2 x3 x4 x5 x10 x11 x12 x13 x14 x15 : Value) (H : AH) : Z4 x1 x2 x3 x4 x5 x10 x11 x12 x13 x14 x15 H =
 QR x1 x2 x3 x4 x5 x10 x11 x12 x13 x14 x15 (vi 0) H :=
 (pt rfl 0 AA (pt rfl 0 TL (by kernel_rfl)))
noncomputable def lTu (x0 x1 x2 x3 x4 : Value) (H : AH) : OV := aU PP GG FF (fL []) (ls [x0, x1, x2, x3, x4] 188) H f5 bq f5
theorem ai2 (x0 x1 x2 x3 x4 : Value) (H : AH) {r : Value × AH} (h : (
 aV (Value.cells x0).toList H fun v126 H127 =>
 aV [(.pointer none), (.pointer none), (.pointer none), (.pointer none)] H127 fun v128 H129 =>
 aV [(.pointer none), (.pointer none), (.pointer none), (.pointer none)] H129 fun v130 H131 =>
 aV [(vi 0), (vi 0), (vi 0), (vi 0)] H131 fun v132 H133 =>
 Z4 x1 x2 x3 x4 v126 (vb false) (vb false) v128 v130 v132 (vi 0) H133) = some r) : FF Jy [x0, x1, x2, x3, x4] H = some r :=
 fo (t := lTu x0 x1 x2 x3 x4 H) Tryz.func24 (by kernel_rfl) (Eq.trans (pt rfl 4 XF (by kernel_rfl)) h)
noncomputable def oh (p : List Nat) : Code := Code.sub (bG Tryz.f25) p
noncomputable def mF : KK := dR PP (Tryz.f25).results.toList
noncomputable def XN : KK := CQ (oh [1, 1]) mF bq mF
noncomputable def rz (x0 x1 x4 x5 : Value) (H : AH) : OV := XN (ls [x0, x1, u, u, x4, x5] 50) H
noncomputable def Mi : KK := CQ (oh [1, 1, 1]) mF bq mF
noncomputable def XL : KK := dd 72057594037927887 Mi
noncomputable def rA (x4 x5 : Value) (H : AH) : OV := Mi (ls [u, u, u, u, x4, x5] 50) H
noncomputable def XP : KK := CQ (oh [1, 1, 0, 1]) XL bq mF
noncomputable def rB (x0 x1 x4 x5 x6 : Value) (H : AH) : OV := XP (ls [x0, x1, u, u, x4, x5, x6] 49) H
noncomputable def Ml : KX := BX 0 XL bq
noncomputable def F1 : KX := ml 72057594037927887 Ml
noncomputable def Mj : KK := ri (oh [1, 1, 0, 1, 4, 5]) F1 mF
noncomputable def XM : KK := dd 72057594037927820 Mj
noncomputable def jk (x0 x1 x4 x5 x6 : Value) (H : AH) : OV := Mj (ls [x0, x1, u, u, x4, x5, x6] 49) H
noncomputable def XR : KK := CQ (oh [1, 1, 0, 1, 4, 5, 1]) XM F1 mF
noncomputable def rC (x0 x1 x4 x5 x6 : Value) (H : AH) : OV := XR (ls [x0, x1, u, u, x4, x5, x6] 49) H
noncomputable def Mk : KK := CQ (oh [1, 1, 0, 1, 4, 5, 1, 1]) XM F1 mF
noncomputable def Mh : KK := dd 72057594037927820 Mk
noncomputable def rD (x0 x1 x4 x5 x6 : Value) (H : AH) : OV := Mk (ls [x0, x1, u, u, x4, x5, x6] 49) H
noncomputable def XV : KX := BX 1 Mh F1
noncomputable def XW : KX := ml 72057594037927820 XV
noncomputable def XT : KK := CQ (oh [1, 1, 0, 1, 4, 5, 1, 0, 4, 1, 1]) Mh XW mF
noncomputable def rE (x0 x1 x4 x5 x6 x7 : Value) (H : AH) : OV := XT (ls [x0, x1, u, u, x4, x5, x6, x7] 48) H
noncomputable def Qh : KK := CQ (oh [1, 1, 0, 1, 4, 5, 1, 0, 4, 1, 1, 1]) Mh XW mF
noncomputable def ic (x0 x1 x4 x5 x6 x7 : Value) (H : AH) : OV := Qh (ls [x0, x1, u, u, x4, x5, x6, x7] 48) H
noncomputable def ge (x4 x5 : Value) (H : AH) : OV := Ml 0 (ls [u, u, u, u, x4, x5] 50) H
theorem jh : au 72057594037927919 mF := rf
theorem XO : au 72057594037927884 XN := rc jh aB jh
theorem AC : au 72057594037927887 Mi := rc jh aB jh
theorem XQ : au 72057594037927820 XP := rc (cd AC) aB jh
theorem o5 : ∀ i, au 72057594037927887 (Ml i) := rb (cd AC) aB
theorem tz : au 72057594037927820 Mj := rl (cx o5) jh
theorem XS : au 72057594037927820 XR := rc (cd tz) (cx o5) jh
theorem tA : au 72057594037927820 Mk := rc (cd tz) (cx o5) jh
theorem AF : ∀ i, au 72057594037927820 (XV i) := rb (cd tA) (cx o5)
theorem XU : au 72057594037927692 XT := rc (cd tA) (cx AF) jh
theorem TT : au 72057594037927692 Qh := rc (cd tA) (cx AF) jh
theorem mP (x4 x5 : Value) (H : AH) : rA x4 x5 H =
 some (x5, H) :=
 (by kernel_rfl)
theorem vB (x0 x1 x4 x5 x6 : Value) (H : AH) : rD x0 x1 x4 x5 x6 H =
 (ai .other .add x6 (vi 1)).bind fun v7 =>
 jk x0 x1 x4 x5 v7 H :=
 (by kernel_rfl)
theorem tS (x0 x1 x4 x5 x6 x7 : Value) (H : AH) : ic x0 x1 x4 x5 x6 x7 H =
 st 1 [.f 3] x7 x6 H fun H11 =>
 (ai .other .rem x6 (vi 4)).bind fun v12 =>
 (ai .other .rem x6 (vi 4)).bind fun v13 =>
 ld [.i 1 v13] x5 H11 fun v14 =>
 (aD 4 x7 H11).bind fun v15 =>
 vJ 1 4 [(vi 0), (vi 0), (vi 0), (vi 0)] [(0, v15)] H11 fun v16 H17 =>
 (dq 4 32 v14 v16 H17).bind fun r18 =>
 st 1 [.i 1 v12] x5 r18.1 r18.2 fun H19 =>
 rD x0 x1 x4 x5 x6 H19 :=
 (by kernel_rfl)
theorem vC (x0 x1 x4 x5 x6 x7 : Value) (H : AH) : rE x0 x1 x4 x5 x6 x7 H =
 ld [.i 4 x6, .f 2] x0 H fun v20 =>
 (FF a9 [v20, (vi 5)] H).bind fun r21 =>
 (ai .other .gtr r21.1 (vi 0)).bind fun v22 =>
 ax v22
 (ld [.i 4 x6, .f 2] x0 r21.2 fun v23 =>
 (FF a9 [v23, (vi 9)] r21.2).bind fun r24 =>
 (ai .other .add (vi 1) r24.1).bind fun v25 =>
 st 1 [.f 2] x7 v25 r24.2 fun H26 =>
 ic x0 x1 x4 x5 x6 x7 H26)
 (ic x0 x1 x4 x5 x6 x7 r21.2) :=
 (pt rfl 0 TT (by kernel_rfl))
theorem vA (x0 x1 x4 x5 x6 : Value) (H : AH) : rC x0 x1 x4 x5 x6 H =
 ldN 4 [.i 4 x6] x0 H fun v27 =>
 (FF pB [v27] H).bind fun r28 =>
 aV [(vi 0), (vi 0), (vi 0), (vi 0)] r28.2 fun v29 H30 =>
 (dn 4 v29 r28.1 H30).bind fun H31 =>
 st 1 [.f 0] v29 (vi 3) H31 fun H32 =>
 rE x0 x1 x4 x5 x6 v29 H32 :=
 (pt rfl 0 tA (bt rfl (oh [1, 1, 0, 1, 4, 5, 1, 0, 4]) 1 AF (pt rfl 1 XU (by kernel_rfl))))
theorem kG (x4 x5 : Value) (H : AH) : ge x4 x5 H = rA x4 x5 H :=
 (by kernel_rfl)
theorem mQ (x0 x1 x4 x5 x6 : Value) (H : AH) : jk x0 x1 x4 x5 x6 H =
 dG x0 fun v33 =>
 (ai .other .lss x6 v33).bind fun v34 =>
 (gV v34 true x6).bind fun v35 =>
 (gV v34 true x1).bind fun v36 =>
 (gB v34 true (ai .other .lss v35 v36)).bind fun v37 =>
 (aQ v34 v37 (vb false)).bind fun v38 =>
 ax v38
 (rC x0 x1 x4 x5 x6 H)
 (ge x4 x5 H) :=
 rG rfl tz (pt rfl 0 XS (by kernel_rfl))
theorem vz (x0 x1 x4 x5 x6 : Value) (H : AH) : rB x0 x1 x4 x5 x6 H =
 jk x0 x1 x4 x5 x6 H :=
 (bt rfl (oh [1, 1, 0, 1, 4]) 0 o5 (li rfl (oh [1, 1, 0, 1, 4, 5]) tz (by kernel_rfl)))
theorem vy (x0 x1 x4 x5 : Value) (H : AH) : rz x0 x1 x4 x5 H =
 rB x0 x1 x4 x5 (vi 0) H :=
 (pt rfl 0 AC (pt rfl 0 XQ (by kernel_rfl)))
noncomputable def MW (x0 x1 : Value) (H : AH) : OV := aU PP GG FF (oh []) (ls [x0, x1] 54) H mF bq mF
theorem CY (x0 x1 : Value) (H : AH) {r : Value × AH} (h : (
 (kQ [(.slice none 0 0)] 1 24 (vi 4) (vi 4) H).bind fun r39 =>
 rz x0 x1 (.slice none 0 0) r39.1 r39.2) = some r) : FF il [x0, x1] H = some r :=
 fo (t := MW x0 x1 H) Tryz.func25 (by kernel_rfl) (Eq.trans (pt rfl 1 XO (by kernel_rfl)) h)
noncomputable def eM (p : List Nat) : Code := Code.sub (bG Tryz.f26) p
noncomputable def hJ : KK := dR PP (Tryz.f26).results.toList
noncomputable def XZ : KK := CQ (eM [1, 1]) hJ bq hJ
noncomputable def aa4 (x0 x1 x2 x6 x7 : Value) (H : AH) : OV := XZ (ls [x0, x1, x2, u, u, u, x6, x7] 61) H
noncomputable def Mn : KK := CQ (eM [1, 1, 1]) hJ bq hJ
noncomputable def XX : KK := dd 590295810358705651519 Mn
noncomputable def aa5 (x6 x7 : Value) (H : AH) : OV := Mn (ls [u, u, u, u, u, u, x6, x7] 61) H
noncomputable def X3 : KK := CQ (eM [1, 1, 0, 1]) XX bq hJ
noncomputable def aa6 (x0 x1 x2 x6 x7 x8 : Value) (H : AH) : OV := X3 (ls [x0, x1, x2, u, u, u, x6, x7, x8] 60) H
noncomputable def Mr : KX := BX 0 XX bq
noncomputable def F9 : KX := ml 590295810358705651519 Mr
noncomputable def Mo : KK := ri (eM [1, 1, 0, 1, 4, 5]) F9 hJ
noncomputable def XY : KK := dd 590295810358705651256 Mo
noncomputable def GM (x0 x1 x2 x6 x7 x8 : Value) (H : AH) : OV := Mo (ls [x0, x1, x2, u, u, u, x6, x7, x8] 60) H
noncomputable def X5 : KK := CQ (eM [1, 1, 0, 1, 4, 5, 1]) XY F9 hJ
noncomputable def aa7 (x0 x1 x2 x6 x7 x8 : Value) (H : AH) : OV := X5 (ls [x0, x1, x2, u, u, u, x6, x7, x8] 60) H
noncomputable def Mq : KK := CQ (eM [1, 1, 0, 1, 4, 5, 1, 1]) XY F9 hJ
noncomputable def Mm : KK := dd 590295810358705651256 Mq
noncomputable def Nn (x0 x1 x2 x6 x7 x8 : Value) (H : AH) : OV := Mq (ls [x0, x1, x2, u, u, u, x6, x7, x8] 60) H
noncomputable def X9 : KX := BX 1 Mm F9
noncomputable def Ya : KX := ml 590295810358705651256 X9
noncomputable def X7 : KK := CQ (eM [1, 1, 0, 1, 4, 5, 1, 0, 4, 1]) Mm Ya hJ
noncomputable def aa8 (x0 x1 x2 x6 x7 x8 x9 : Value) (H : AH) : OV := X7 (ls [x0, x1, x2, u, u, u, x6, x7, x8, x9] 59) H
noncomputable def F7 : KX := BX 2 Mm Ya
noncomputable def yW : KX := ml 590295810358705651256 F7
noncomputable def F3 : KK := ri (eM [1, 1, 0, 1, 4, 5, 1, 0, 4, 1, 4, 5]) yW hJ
noncomputable def Qi : KK := dd 590295810358705650744 F3
noncomputable def zb (x0 x1 x2 x6 x7 x8 x9 : Value) (H : AH) : OV := F3 (ls [x0, x1, x2, u, u, u, x6, x7, x8, x9] 59) H
noncomputable def Qk : KK := CQ (eM [1, 1, 0, 1, 4, 5, 1, 0, 4, 1, 4, 5, 1]) Qi yW hJ
noncomputable def Q9 (x0 x1 x2 x6 x7 x8 x9 : Value) (H : AH) : OV := Qk (ls [x0, x1, x2, u, u, u, x6, x7, x8, x9] 59) H
noncomputable def F4 : KK := CQ (eM [1, 1, 0, 1, 4, 5, 1, 0, 4, 1, 4, 5, 1, 1]) Qi yW hJ
noncomputable def F2 : KK := dd 590295810358705650744 F4
noncomputable def GL (x0 x1 x2 x6 x7 x8 x9 : Value) (H : AH) : OV := F4 (ls [x0, x1, x2, u, u, u, x6, x7, x8, x9] 59) H
noncomputable def Qn : KX := BX 3 F2 yW
noncomputable def Qo : KX := ml 590295810358705650744 Qn
noncomputable def Ql : KK := CQ (eM [1, 1, 0, 1, 4, 5, 1, 0, 4, 1, 4, 5, 1, 0, 4, 1, 1]) F2 Qo hJ
noncomputable def Ra (x0 x1 x2 x6 x7 x8 x9 x10 : Value) (H : AH) : OV := Ql (ls [x0, x1, x2, u, u, u, x6, x7, x8, x9, x10] 58) H
noncomputable def F8 : KX := BX 4 F2 Qo
noncomputable def yX : KX := ml 590295810358705650744 F8
noncomputable def F5 : KK := ri (eM [1, 1, 0, 1, 4, 5, 1, 0, 4, 1, 4, 5, 1, 0, 4, 1, 1, 4, 5]) yX hJ
noncomputable def Qj : KK := dd 590295810358705649720 F5
noncomputable def zc (x0 x1 x2 x6 x7 x8 x9 x10 : Value) (H : AH) : OV := F5 (ls [x0, x1, x2, u, u, u, x6, x7, x8, x9, x10] 58) H
noncomputable def Qm : KK := CQ (eM [1, 1, 0, 1, 4, 5, 1, 0, 4, 1, 4, 5, 1, 0, 4, 1, 1, 4, 5, 1]) Qj yX hJ
noncomputable def Rb (x0 x1 x2 x6 x7 x8 x9 x10 : Value) (H : AH) : OV := Qm (ls [x0, x1, x2, u, u, u, x6, x7, x8, x9, x10] 58) H
noncomputable def F6 : KK := CQ (eM [1, 1, 0, 1, 4, 5, 1, 0, 4, 1, 4, 5, 1, 0, 4, 1, 1, 4, 5, 1, 1]) Qj yX hJ
noncomputable def afA : KK := dd 590295810358705649720 F6
noncomputable def Rc (x0 x1 x2 x6 x7 x8 x9 x10 : Value) (H : AH) : OV := F6 (ls [x0, x1, x2, u, u, u, x6, x7, x8, x9, x10] 58) H
noncomputable def afB : KX := BX 5 afA yX
noncomputable def qI (x0 x1 x2 x6 x7 x8 x9 : Value) (H : AH) : OV := F8 4 (ls [x0, x1, x2, u, u, u, x6, x7, x8, x9] 59) H
noncomputable def vP (x0 x1 x2 x6 x7 x8 : Value) (H : AH) : OV := F7 2 (ls [x0, x1, x2, u, u, u, x6, x7, x8] 60) H
noncomputable def JF (x6 x7 : Value) (H : AH) : OV := Mr 0 (ls [u, u, u, u, u, u, x6, x7] 61) H
theorem dK : au 590295810358705651647 hJ := rf
theorem X0 : au 590295810358705651512 XZ := rc dK aB dK
theorem AG : au 590295810358705651519 Mn := rc dK aB dK
theorem X4 : au 590295810358705651256 X3 := rc (cd AG) aB dK
theorem o6 : ∀ i, au 590295810358705651519 (Mr i) := rb (cd AG) aB
theorem tB : au 590295810358705651256 Mo := rl (cx o6) dK
theorem X6 : au 590295810358705651256 X5 := rc (cd tB) (cx o6) dK
theorem tC : au 590295810358705651256 Mq := rc (cd tB) (cx o6) dK
theorem AI : ∀ i, au 590295810358705651256 (X9 i) := rb (cd tC) (cx o6)
theorem X8 : au 590295810358705650744 X7 := rc (cd tC) (cx AI) dK
theorem mG : ∀ i, au 590295810358705651256 (F7 i) := rb (cd tC) (cx AI)
theorem qw : au 590295810358705650744 F3 := rl (cx mG) dK
theorem TU : au 590295810358705650744 Qk := rc (cd qw) (cx mG) dK
theorem qx : au 590295810358705650744 F4 := rc (cd qw) (cx mG) dK
theorem vn : ∀ i, au 590295810358705650744 (Qn i) := rb (cd qx) (cx mG)
theorem TV : au 590295810358705649720 Ql := rc (cd qx) (cx vn) dK
theorem mH : ∀ i, au 590295810358705650744 (F8 i) := rb (cd qx) (cx vn)
theorem qy : au 590295810358705649720 F5 := rl (cx mH) dK
theorem TW : au 590295810358705649720 Qm := rc (cd qy) (cx mH) dK
theorem DK : au 590295810358705649720 F6 := rc (cd qy) (cx mH) dK
theorem TX : ∀ i, au 590295810358705649720 (afB i) := rb (cd DK) (cx mH)
theorem D4 (x6 x7 : Value) (H : AH) : aa5 x6 x7 H =
 some (x7, H) :=
 (by kernel_rfl)
theorem UG (x0 x1 x2 x6 x7 x8 : Value) (H : AH) : Nn x0 x1 x2 x6 x7 x8 H =
 (ai .other .add x8 (vi 1)).bind fun v7 =>
 GM x0 x1 x2 x6 x7 v7 H :=
 (by kernel_rfl)
theorem Nj (x0 x1 x2 x6 x7 x8 x9 : Value) (H : AH) : GL x0 x1 x2 x6 x7 x8 x9 H =
 (ai .other .add x9 (vi 1)).bind fun v14 =>
 zb x0 x1 x2 x6 x7 x8 v14 H :=
 (by kernel_rfl)
theorem Nm (x0 x1 x2 x6 x7 x8 x9 x10 : Value) (H : AH) : Rc x0 x1 x2 x6 x7 x8 x9 x10 H =
 (ai .other .add x10 (vi 1)).bind fun v21 =>
 zc x0 x1 x2 x6 x7 x8 x9 v21 H :=
 (by kernel_rfl)
theorem Nl (x0 x1 x2 x6 x7 x8 x9 x10 : Value) (H : AH) : Rb x0 x1 x2 x6 x7 x8 x9 x10 H =
 ld [.i 1 x9] x0 H fun v23 =>
 (FF a9 [v23, x1] H).bind fun r24 =>
 vJ 1 1 [(vi 0)] [(0, r24.1)] r24.2 fun v25 H26 =>
 (dq 1 8 x7 v25 H26).bind fun r27 =>
 Rc x0 x1 x2 x6 r27.1 x8 x9 x10 r27.2 :=
 (pt rfl 0 DK (bt rfl (eM [1, 1, 0, 1, 4, 5, 1, 0, 4, 1, 4, 5, 1, 0, 4, 1, 1, 4, 5, 1, 0, 4]) 5 TX (by kernel_rfl)))
theorem uc (x0 x1 x2 x6 x7 x8 x9 : Value) (H : AH) : qI x0 x1 x2 x6 x7 x8 x9 H = GL x0 x1 x2 x6 x7 x8 x9 H :=
 (by kernel_rfl)
theorem BD (x0 x1 x2 x6 x7 x8 x9 x10 : Value) (H : AH) : zc x0 x1 x2 x6 x7 x8 x9 x10 H =
 ld [.i 1 x9] x0 H fun v28 =>
 (FF a9 [v28, (vi 7)] H).bind fun r29 =>
 (ai .other .rem x8 (vi 3)).bind fun v30 =>
 (ai .other .mul r29.1 v30).bind fun v31 =>
 (ai .other .lss x10 v31).bind fun v32 =>
 (gV v32 true x7).bind fun v33 =>
 (uY (yv v32) true (dG v33 some) (some undef)).bind fun v34 =>
 (gV v32 true x2).bind fun v35 =>
 (gB v32 true (ai .other .lss v34 v35)).bind fun v36 =>
 (aQ v32 v36 (vb false)).bind fun v37 =>
 ax v37
 (Rb x0 x1 x2 x6 x7 x8 x9 x10 r29.2)
 (qI x0 x1 x2 x6 x7 x8 x9 r29.2) :=
 rG rfl qy (pt rfl 0 TW (by kernel_rfl))
theorem Nk (x0 x1 x2 x6 x7 x8 x9 x10 : Value) (H : AH) : Ra x0 x1 x2 x6 x7 x8 x9 x10 H =
 zc x0 x1 x2 x6 x7 x8 x9 x10 H :=
 (bt rfl (eM [1, 1, 0, 1, 4, 5, 1, 0, 4, 1, 4, 5, 1, 0, 4, 1, 1, 4]) 4 mH (li rfl (eM [1, 1, 0, 1, 4, 5, 1, 0, 4, 1, 4, 5, 1, 0, 4, 1, 1, 4, 5]) qy (by kernel_rfl)))
theorem Ni (x0 x1 x2 x6 x7 x8 x9 : Value) (H : AH) : Q9 x0 x1 x2 x6 x7 x8 x9 H =
 ld [.i 1 x9] x0 H fun v38 =>
 (FF a9 [v38, x1] H).bind fun r39 =>
 vJ 1 1 [(vi 0)] [(0, r39.1)] r39.2 fun v40 H41 =>
 (dq 1 8 x7 v40 H41).bind fun r42 =>
 Ra x0 x1 x2 x6 r42.1 x8 x9 (vi 0) r42.2 :=
 (pt rfl 0 qx (bt rfl (eM [1, 1, 0, 1, 4, 5, 1, 0, 4, 1, 4, 5, 1, 0, 4]) 3 vn (pt rfl 1 TV (by kernel_rfl))))
theorem GK (x0 x1 x2 x6 x7 x8 : Value) (H : AH) : vP x0 x1 x2 x6 x7 x8 H = Nn x0 x1 x2 x6 x7 x8 H :=
 (by kernel_rfl)
theorem Nh (x0 x1 x2 x6 x7 x8 x9 : Value) (H : AH) : zb x0 x1 x2 x6 x7 x8 x9 H =
 dG x0 fun v43 =>
 (ai .other .lss x9 v43).bind fun v44 =>
 (gV v44 true x7).bind fun v45 =>
 (uY (yv v44) true (dG v45 some) (some undef)).bind fun v46 =>
 (gV v44 true x2).bind fun v47 =>
 (gB v44 true (ai .other .lss v46 v47)).bind fun v48 =>
 (aQ v44 v48 (vb false)).bind fun v49 =>
 ax v49
 (Q9 x0 x1 x2 x6 x7 x8 x9 H)
 (vP x0 x1 x2 x6 x7 x8 H) :=
 rG rfl qw (pt rfl 0 TU (by kernel_rfl))
theorem UH (x0 x1 x2 x6 x7 x8 x9 : Value) (H : AH) : aa8 x0 x1 x2 x6 x7 x8 x9 H =
 zb x0 x1 x2 x6 x7 x8 x9 H :=
 (bt rfl (eM [1, 1, 0, 1, 4, 5, 1, 0, 4, 1, 4]) 2 mG (li rfl (eM [1, 1, 0, 1, 4, 5, 1, 0, 4, 1, 4, 5]) qw (by kernel_rfl)))
theorem UF (x0 x1 x2 x6 x7 x8 : Value) (H : AH) : aa7 x0 x1 x2 x6 x7 x8 H =
 aa8 x0 x1 x2 x6 x7 x8 (vi 0) H :=
 (pt rfl 0 tC (bt rfl (eM [1, 1, 0, 1, 4, 5, 1, 0, 4]) 1 AI (pt rfl 0 X8 (by kernel_rfl))))
theorem xi (x6 x7 : Value) (H : AH) : JF x6 x7 H = aa5 x6 x7 H :=
 (by kernel_rfl)
theorem D5 (x0 x1 x2 x6 x7 x8 : Value) (H : AH) : GM x0 x1 x2 x6 x7 x8 H =
 (ai .other .lss x8 (vi 40)).bind fun v50 =>
 (gV v50 true x0).bind fun v51 =>
 (uY (yv v50) true (dG v51 some) (some undef)).bind fun v52 =>
 (gB v50 true (ai .other .gtr v52 (vi 0))).bind fun v53 =>
 (aQ v50 v53 (vb false)).bind fun v54 =>
 ax v54
 (aa7 x0 x1 x2 x6 x7 x8 H)
 (JF x6 x7 H) :=
 rG rfl tB (pt rfl 0 X6 (by kernel_rfl))
theorem UE (x0 x1 x2 x6 x7 x8 : Value) (H : AH) : aa6 x0 x1 x2 x6 x7 x8 H =
 GM x0 x1 x2 x6 x7 x8 H :=
 (bt rfl (eM [1, 1, 0, 1, 4]) 0 o6 (li rfl (eM [1, 1, 0, 1, 4, 5]) tB (by kernel_rfl)))
theorem UD (x0 x1 x2 x6 x7 : Value) (H : AH) : aa4 x0 x1 x2 x6 x7 H =
 aa6 x0 x1 x2 x6 x7 (vi 0) H :=
 (pt rfl 0 AG (pt rfl 0 X4 (by kernel_rfl)))
noncomputable def pMa (x0 x1 x2 : Value) (H : AH) : OV := aU PP GG FF (eM []) (ls [x0, x1, x2] 66) H hJ bq hJ
theorem ai7 (x0 x1 x2 : Value) (H : AH) {r : Value × AH} (h : (
 aa4 x0 x1 x2 (.slice none 0 0) (.slice none 0 0) H) = some r) : FF Jz [x0, x1, x2] H = some r :=
 fo (t := pMa x0 x1 x2 H) Tryz.func26 (by kernel_rfl) (Eq.trans (pt rfl 1 X0 (by kernel_rfl)) h)
theorem pI (x0 x1 : Value) (H : AH) {r : Value × AH} (h : (
 aV (Value.cells x0).toList H fun v0 H1 =>
 aV (Value.cells x1).toList H1 fun v2 H3 =>
 ld [.f 0] v0 H3 fun v4 =>
 ld [.f 0] v2 H3 fun v5 =>
 (FF iV [v4, v5] H3).bind fun r6 =>
 some (r6.1, r6.2)) = some r) : FF cT [x0, x1] H = some r :=
 fo Tryz.func38 (by kernel_rfl) h
theorem tT (x0 x1 x2 : Value) (H : AH) {r : Value × AH} (h : (
 aV (Value.cells x0).toList H fun v0 H1 =>
 ld [.f 0] v0 H1 fun v2 =>
 (FF fS [v2, x1, x2] H1).bind fun r3 =>
 ld [.f 1] v0 r3.2 fun v4 =>
 (FF ir [v4, x1, x2] r3.2).bind fun r5 =>
 some (Value.tuple #[], r5.2)) = some r) : FF i0 [x0, x1, x2] H = some r :=
 fo Tryz.func41 (by kernel_rfl) h
theorem BR (x0 x1 x2 : Value) (H : AH) {r : Value × AH} (h : (
 aV (Value.cells x2).toList H fun v0 H1 =>
 (aD 4 v0 H1).bind fun v2 =>
 g6 [(0, 1), (1, 1), (2, 4), (6, 1), (7, 1), (8, 1), (9, 1), (10, 1), (11, 1), (12, 1), (13, 1), (14, 1), (15, 1), (16, 1), (17, 4), (21, 1), (22, 1), (23, 1), (24, 1), (25, 1), (26, 3), (29, 1), (30, 4)] [(.pointer none), (vi 0), (vi 0), (vi 0), (vi 0), (vi 0), (vi 0), (vi 0), (vi 0), (vb false), (vi 0), (vw 0), (vw 0), (vw 0), (vw 0), (vw 0), (vi 0), (vi 0), (.slice none 0 0), (vi 0), (vw 0), (vi 0), (vi 0), (.slice none 0 0), (vw 0), (vw 0), (vi 0), (vi 0), (vi 0), (vb false), (vi 0), (.slice none 0 0), (vi 0), (vw 0)] [(0, x0), (1, x1), (2, v2), (5, (vi (-1)))] fun v3 =>
 aV (Value.cells v3).toList H1 fun v4 H5 =>
 some (v4, H5)) = some r) : FF mi [x0, x1, x2] H = some r :=
 fo Tryz.func42 (by kernel_rfl) h
noncomputable def b5 (p : List Nat) : Code := Code.sub (bG Tryz.f43) p
noncomputable def fe : KK := dR PP (Tryz.f43).results.toList
noncomputable def Yj : KK := CQ (b5 [1, 1, 1]) fe bq fe
noncomputable def NK (x0 x1 x4 x5 x6 x7 : Value) (H : AH) : OV := Yj (ls [x0, x1, u, u, x4, x5, x6, x7] 297) H
noncomputable def Yl : KK := CQ (b5 [1, 1, 1, 1]) fe bq fe
noncomputable def NL (x0 x1 x4 x5 x6 x7 : Value) (H : AH) : OV := Yl (ls [x0, x1, u, u, x4, x5, x6, x7] 297) H
noncomputable def Mt : KK := CQ (b5 [1, 1, 1, 1, 1]) fe bq fe
noncomputable def fQ : KK := dd 65185151242703554760590262029100101153646988597309960020356494379340201592426774597868716015 Mt
noncomputable def d7 (x4 : Value) (H : AH) : OV := Mt (ls [u, u, u, u, x4] 300) H
noncomputable def Yn : KK := CQ (b5 [1, 1, 1, 1, 0, 1]) fQ bq fe
noncomputable def nV (x0 x1 x4 x5 x6 x7 x93 : Value) (H : AH) : OV := Yn (ls [x0, x1, u, u, x4, x5, x6, x7, u, u, u, u, u, u, u, u, u, u, u, u, u, u, u, u, u, u, u, u, u, u, u, u, u, u, u, u, u, u, u, u, u, u, u, u, u, u, u, u, u, u, u, u, u, u, u, u, u, u, u, u, u, u, u, u, u, u, u, u, u, u, u, u, u, u, u, u, u, u, u, u, u, u, u, u, u, u, u, u, u, u, u, u, u, x93] 211) H
noncomputable def Yr : KX := BX 0 fQ bq
noncomputable def hM : KX := ml 65185151242703554760590262029100101153646988597309960020356494379340201592426774597868716015 Yr
noncomputable def Yp : KK := CQ (b5 [1, 1, 1, 1, 0, 1, 4, 1]) fQ hM fe
noncomputable def NN (x0 x1 x4 x5 x6 x7 x93 x97 : Value) (H : AH) : OV := Yp (ls [x0, x1, u, u, x4, x5, x6, x7, u, u, u, u, u, u, u, u, u, u, u, u, u, u, u, u, u, u, u, u, u, u, u, u, u, u, u, u, u, u, u, u, u, u, u, u, u, u, u, u, u, u, u, u, u, u, u, u, u, u, u, u, u, u, u, u, u, u, u, u, u, u, u, u, u, u, u, u, u, u, u, u, u, u, u, u, u, u, u, u, u, u, u, u, u, x93, u, u, u, x97] 207) H
noncomputable def Qq : KK := CQ (b5 [1, 1, 1, 1, 0, 1, 4, 1, 3, 1]) fQ hM fe
noncomputable def Rp (x0 x1 x4 x5 x6 x7 x93 x112 : Value) (H : AH) : OV := Qq (ls [x0, x1, u, u, x4, x5, x6, x7, u, u, u, u, u, u, u, u, u, u, u, u, u, u, u, u, u, u, u, u, u, u, u, u, u, u, u, u, u, u, u, u, u, u, u, u, u, u, u, u, u, u, u, u, u, u, u, u, u, u, u, u, u, u, u, u, u, u, u, u, u, u, u, u, u, u, u, u, u, u, u, u, u, u, u, u, u, u, u, u, u, u, u, u, u, x93, u, u, u, u, u, u, u, u, u, u, u, u, u, u, u, u, u, u, x112] 192) H
noncomputable def Qr : KK := CQ (b5 [1, 1, 1, 1, 0, 1, 4, 1, 3, 1, 3, 1]) fQ hM fe
noncomputable def Rq (x0 x1 x4 x5 x6 x7 x93 x133 : Value) (H : AH) : OV := Qr (ls [x0, x1, u, u, x4, x5, x6, x7, u, u, u, u, u, u, u, u, u, u, u, u, u, u, u, u, u, u, u, u, u, u, u, u, u, u, u, u, u, u, u, u, u, u, u, u, u, u, u, u, u, u, u, u, u, u, u, u, u, u, u, u, u, u, u, u, u, u, u, u, u, u, u, u, u, u, u, u, u, u, u, u, u, u, u, u, u, u, u, u, u, u, u, u, u, x93, u, u, u, u, u, u, u, u, u, u, u, u, u, u, u, u, u, u, u, u, u, u, u, u, u, u, u, u, u, u, u, u, u, u, u, u, u, u, u, x133] 171) H
noncomputable def Qs : KK := CQ (b5 [1, 1, 1, 1, 0, 1, 4, 1, 3, 1, 3, 1, 3, 1]) fQ hM fe
noncomputable def Rs (x0 x1 x4 x5 x6 x7 x93 x151 : Value) (H : AH) : OV := Qs (ls [x0, x1, u, u, x4, x5, x6, x7, u, u, u, u, u, u, u, u, u, u, u, u, u, u, u, u, u, u, u, u, u, u, u, u, u, u, u, u, u, u, u, u, u, u, u, u, u, u, u, u, u, u, u, u, u, u, u, u, u, u, u, u, u, u, u, u, u, u, u, u, u, u, u, u, u, u, u, u, u, u, u, u, u, u, u, u, u, u, u, u, u, u, u, u, u, x93, u, u, u, u, u, u, u, u, u, u, u, u, u, u, u, u, u, u, u, u, u, u, u, u, u, u, u, u, u, u, u, u, u, u, u, u, u, u, u, u, u, u, u, u, u, u, u, u, u, u, u, u, u, u, u, u, u, x151] 153) H
noncomputable def Qt : KK := CQ (b5 [1, 1, 1, 1, 0, 1, 4, 1, 3, 1, 3, 1, 3, 1, 3, 1]) fQ hM fe
noncomputable def G5 (x0 x1 x4 x5 x6 x7 x93 x171 : Value) (H : AH) : OV := Qt (ls [x0, x1, u, u, x4, x5, x6, x7, u, u, u, u, u, u, u, u, u, u, u, u, u, u, u, u, u, u, u, u, u, u, u, u, u, u, u, u, u, u, u, u, u, u, u, u, u, u, u, u, u, u, u, u, u, u, u, u, u, u, u, u, u, u, u, u, u, u, u, u, u, u, u, u, u, u, u, u, u, u, u, u, u, u, u, u, u, u, u, u, u, u, u, u, u, x93, u, u, u, u, u, u, u, u, u, u, u, u, u, u, u, u, u, u, u, u, u, u, u, u, u, u, u, u, u, u, u, u, u, u, u, u, u, u, u, u, u, u, u, u, u, u, u, u, u, u, u, u, u, u, u, u, u, u, u, u, u, u, u, u, u, u, u, u, u, u, u, u, u, u, u, u, u, x171] 133) H
noncomputable def Qu : KK := CQ (b5 [1, 1, 1, 1, 0, 1, 4, 1, 3, 1, 3, 1, 3, 1, 3, 1, 3, 1]) fQ hM fe
noncomputable def Rt (x0 x1 x4 x5 x6 x7 x93 x186 : Value) (H : AH) : OV := Qu (ls [x0, x1, u, u, x4, x5, x6, x7, u, u, u, u, u, u, u, u, u, u, u, u, u, u, u, u, u, u, u, u, u, u, u, u, u, u, u, u, u, u, u, u, u, u, u, u, u, u, u, u, u, u, u, u, u, u, u, u, u, u, u, u, u, u, u, u, u, u, u, u, u, u, u, u, u, u, u, u, u, u, u, u, u, u, u, u, u, u, u, u, u, u, u, u, u, x93, u, u, u, u, u, u, u, u, u, u, u, u, u, u, u, u, u, u, u, u, u, u, u, u, u, u, u, u, u, u, u, u, u, u, u, u, u, u, u, u, u, u, u, u, u, u, u, u, u, u, u, u, u, u, u, u, u, u, u, u, u, u, u, u, u, u, u, u, u, u, u, u, u, u, u, u, u, u, u, u, u, u, u, u, u, u, u, u, u, u, u, u, x186] 118) H
noncomputable def Qv : KK := CQ (b5 [1, 1, 1, 1, 0, 1, 4, 1, 3, 1, 3, 1, 3, 1, 3, 1, 3, 1, 3, 1]) fQ hM fe
noncomputable def G6 (x0 x1 x4 x5 x6 x7 x93 x197 : Value) (H : AH) : OV := Qv (ls [x0, x1, u, u, x4, x5, x6, x7, u, u, u, u, u, u, u, u, u, u, u, u, u, u, u, u, u, u, u, u, u, u, u, u, u, u, u, u, u, u, u, u, u, u, u, u, u, u, u, u, u, u, u, u, u, u, u, u, u, u, u, u, u, u, u, u, u, u, u, u, u, u, u, u, u, u, u, u, u, u, u, u, u, u, u, u, u, u, u, u, u, u, u, u, u, x93, u, u, u, u, u, u, u, u, u, u, u, u, u, u, u, u, u, u, u, u, u, u, u, u, u, u, u, u, u, u, u, u, u, u, u, u, u, u, u, u, u, u, u, u, u, u, u, u, u, u, u, u, u, u, u, u, u, u, u, u, u, u, u, u, u, u, u, u, u, u, u, u, u, u, u, u, u, u, u, u, u, u, u, u, u, u, u, u, u, u, u, u, u, u, u, u, u, u, u, u, u, u, u, x197] 107) H
noncomputable def Qw : KK := CQ (b5 [1, 1, 1, 1, 0, 1, 4, 1, 3, 1, 3, 1, 3, 1, 3, 1, 3, 1, 3, 1, 2, 1, 1]) fQ hM fe
noncomputable def Ru (x0 x4 x13 : Value) (H : AH) : OV := Qw (ls [x0, u, u, u, x4, u, u, u, u, u, u, u, u, x13] 291) H
noncomputable def afC : KX := BX 1 fQ hM
noncomputable def Qx : KK := CQ (b5 [1, 1, 1, 1, 0, 1, 4, 1, 3, 1, 3, 1, 3, 1, 3, 1, 3, 1, 3, 1, 3, 1]) fQ hM fe
noncomputable def G7 (x0 x1 x4 x5 x6 x7 x93 x242 : Value) (H : AH) : OV := Qx (ls [x0, x1, u, u, x4, x5, x6, x7, u, u, u, u, u, u, u, u, u, u, u, u, u, u, u, u, u, u, u, u, u, u, u, u, u, u, u, u, u, u, u, u, u, u, u, u, u, u, u, u, u, u, u, u, u, u, u, u, u, u, u, u, u, u, u, u, u, u, u, u, u, u, u, u, u, u, u, u, u, u, u, u, u, u, u, u, u, u, u, u, u, u, u, u, u, x93, u, u, u, u, u, u, u, u, u, u, u, u, u, u, u, u, u, u, u, u, u, u, u, u, u, u, u, u, u, u, u, u, u, u, u, u, u, u, u, u, u, u, u, u, u, u, u, u, u, u, u, u, u, u, u, u, u, u, u, u, u, u, u, u, u, u, u, u, u, u, u, u, u, u, u, u, u, u, u, u, u, u, u, u, u, u, u, u, u, u, u, u, u, u, u, u, u, u, u, u, u, u, u, u, u, u, u, u, u, u, u, u, u, u, u, u, u, u, u, u, u, u, u, u, u, u, u, u, u, u, u, u, u, u, u, u, u, u, u, u, u, u, u, u, u, u, u, u, x242] 62) H
noncomputable def Qy : KK := CQ (b5 [1, 1, 1, 1, 0, 1, 4, 1, 3, 1, 3, 1, 3, 1, 3, 1, 3, 1, 3, 1, 3, 1, 3, 1]) fQ hM fe
noncomputable def uB (x0 x1 x4 x5 x6 x7 x93 x248 : Value) (H : AH) : OV := Qy (ls [x0, x1, u, u, x4, x5, x6, x7, u, u, u, u, u, u, u, u, u, u, u, u, u, u, u, u, u, u, u, u, u, u, u, u, u, u, u, u, u, u, u, u, u, u, u, u, u, u, u, u, u, u, u, u, u, u, u, u, u, u, u, u, u, u, u, u, u, u, u, u, u, u, u, u, u, u, u, u, u, u, u, u, u, u, u, u, u, u, u, u, u, u, u, u, u, x93, u, u, u, u, u, u, u, u, u, u, u, u, u, u, u, u, u, u, u, u, u, u, u, u, u, u, u, u, u, u, u, u, u, u, u, u, u, u, u, u, u, u, u, u, u, u, u, u, u, u, u, u, u, u, u, u, u, u, u, u, u, u, u, u, u, u, u, u, u, u, u, u, u, u, u, u, u, u, u, u, u, u, u, u, u, u, u, u, u, u, u, u, u, u, u, u, u, u, u, u, u, u, u, u, u, u, u, u, u, u, u, u, u, u, u, u, u, u, u, u, u, u, u, u, u, u, u, u, u, u, u, u, u, u, u, u, u, u, u, u, u, u, u, u, u, u, u, u, u, u, u, u, u, u, x248] 56) H
noncomputable def Qz : KK := CQ (b5 [1, 1, 1, 1, 0, 1, 4, 1, 3, 1, 3, 1, 3, 1, 3, 1, 3, 1, 3, 1, 3, 1, 3, 1, 3, 1]) fQ hM fe
noncomputable def G8 (x0 x1 x4 x5 x6 x93 x272 : Value) (H : AH) : OV := Qz (ls [x0, x1, u, u, x4, x5, x6, u, u, u, u, u, u, u, u, u, u, u, u, u, u, u, u, u, u, u, u, u, u, u, u, u, u, u, u, u, u, u, u, u, u, u, u, u, u, u, u, u, u, u, u, u, u, u, u, u, u, u, u, u, u, u, u, u, u, u, u, u, u, u, u, u, u, u, u, u, u, u, u, u, u, u, u, u, u, u, u, u, u, u, u, u, u, x93, u, u, u, u, u, u, u, u, u, u, u, u, u, u, u, u, u, u, u, u, u, u, u, u, u, u, u, u, u, u, u, u, u, u, u, u, u, u, u, u, u, u, u, u, u, u, u, u, u, u, u, u, u, u, u, u, u, u, u, u, u, u, u, u, u, u, u, u, u, u, u, u, u, u, u, u, u, u, u, u, u, u, u, u, u, u, u, u, u, u, u, u, u, u, u, u, u, u, u, u, u, u, u, u, u, u, u, u, u, u, u, u, u, u, u, u, u, u, u, u, u, u, u, u, u, u, u, u, u, u, u, u, u, u, u, u, u, u, u, u, u, u, u, u, u, u, u, u, u, u, u, u, u, u, u, u, u, u, u, u, u, u, u, u, u, u, u, u, u, u, u, u, u, u, u, u, u, u, x272] 32) H
noncomputable def QA : KK := CQ (b5 [1, 1, 1, 1, 0, 1, 4, 1, 3, 1, 3, 1, 3, 1, 3, 1, 3, 1, 3, 1, 3, 1, 3, 1, 3, 1, 3, 1]) fQ hM fe
noncomputable def Rv (x0 x1 x4 x5 x6 x93 x283 : Value) (H : AH) : OV := QA (ls [x0, x1, u, u, x4, x5, x6, u, u, u, u, u, u, u, u, u, u, u, u, u, u, u, u, u, u, u, u, u, u, u, u, u, u, u, u, u, u, u, u, u, u, u, u, u, u, u, u, u, u, u, u, u, u, u, u, u, u, u, u, u, u, u, u, u, u, u, u, u, u, u, u, u, u, u, u, u, u, u, u, u, u, u, u, u, u, u, u, u, u, u, u, u, u, x93, u, u, u, u, u, u, u, u, u, u, u, u, u, u, u, u, u, u, u, u, u, u, u, u, u, u, u, u, u, u, u, u, u, u, u, u, u, u, u, u, u, u, u, u, u, u, u, u, u, u, u, u, u, u, u, u, u, u, u, u, u, u, u, u, u, u, u, u, u, u, u, u, u, u, u, u, u, u, u, u, u, u, u, u, u, u, u, u, u, u, u, u, u, u, u, u, u, u, u, u, u, u, u, u, u, u, u, u, u, u, u, u, u, u, u, u, u, u, u, u, u, u, u, u, u, u, u, u, u, u, u, u, u, u, u, u, u, u, u, u, u, u, u, u, u, u, u, u, u, u, u, u, u, u, u, u, u, u, u, u, u, u, u, u, u, u, u, u, u, u, u, u, u, u, u, u, u, u, u, u, u, u, u, u, u, u, u, u, u, x283] 21) H
noncomputable def QB : KK := CQ (b5 [1, 1, 1, 1, 0, 1, 4, 1, 3, 1, 3, 1, 3, 1, 3, 1, 3, 1, 3, 1, 3, 1, 3, 1, 3, 1, 3, 1, 3, 1]) fQ hM fe
noncomputable def j2 (x0 x1 x4 x6 x297 : Value) (H : AH) : OV := QB (ls [x0, x1, u, u, x4, u, x6, u, u, u, u, u, u, u, u, u, u, u, u, u, u, u, u, u, u, u, u, u, u, u, u, u, u, u, u, u, u, u, u, u, u, u, u, u, u, u, u, u, u, u, u, u, u, u, u, u, u, u, u, u, u, u, u, u, u, u, u, u, u, u, u, u, u, u, u, u, u, u, u, u, u, u, u, u, u, u, u, u, u, u, u, u, u, u, u, u, u, u, u, u, u, u, u, u, u, u, u, u, u, u, u, u, u, u, u, u, u, u, u, u, u, u, u, u, u, u, u, u, u, u, u, u, u, u, u, u, u, u, u, u, u, u, u, u, u, u, u, u, u, u, u, u, u, u, u, u, u, u, u, u, u, u, u, u, u, u, u, u, u, u, u, u, u, u, u, u, u, u, u, u, u, u, u, u, u, u, u, u, u, u, u, u, u, u, u, u, u, u, u, u, u, u, u, u, u, u, u, u, u, u, u, u, u, u, u, u, u, u, u, u, u, u, u, u, u, u, u, u, u, u, u, u, u, u, u, u, u, u, u, u, u, u, u, u, u, u, u, u, u, u, u, u, u, u, u, u, u, u, u, u, u, u, u, u, u, u, u, u, u, u, u, u, u, u, u, u, u, u, u, u, u, u, u, u, u, u, u, u, u, u, u, u, u, u, u, u, u, x297] 7) H
theorem cP : au 65185151242703554760590262029100101153646988597309960020356494379340201592426774597868716015 fe := rf
theorem Yk : au 65185151242703554760590262029100101153646988597309960020356494379340201592426774597868715788 Yj := rc cP aB cP
theorem Ym : au 65185151242703554760590262029100101153646988597309960020356494379340201592426774597868715788 Yl := rc cP aB cP
theorem cI : au 65185151242703554760590262029100101153646988597309960020356494379340201592426774597868716015 Mt := rc cP aB cP
theorem Yo : au 65185151242703554760590262029100101153646988597309960020356494369436681278143732398675721996 Yn := rc (cd cI) aB cP
theorem de : ∀ i, au 65185151242703554760590262029100101153646988597309960020356494379340201592426774597868716015 (Yr i) := rb (cd cI) aB
theorem Yq : au 65185151242703554760590262029100101153646988597309960020356494210980356249615057211587821324 Yp := rc (cd cI) (cx de) cP
theorem TY : au 65185151242703554760590262029100101153646988597309960020351302072578146450515201902346501900 Qq := rc (cd cI) (cx de) cP
theorem TZ : au 65185151242703554760590262029100101153646988597309949131320752899405850450156294582092955404 Qr := rc (cd cI) (cx de) cP
theorem T0 : au 65185151242703554760590262029100101153646988594455464634944574607320109339244742125910228748 Qs := rc (cd cI) (cx de) cP
theorem T3 : au 65185151242703554760590262029100101153643995441956706331180013222899278330519477048827707148 Qt := rc (cd cI) (cx de) cP
theorem T4 : au 65185151242703554760590262029100101055567273981893073085422284631816893526544428578925182732 Qu := rc (cd cI) (cx de) cP
theorem T5 : au 65185151242703554760590262029099900286391456223525517275094951724111366002769509549571309324 Qv := rc (cd cI) (cx de) cP
theorem T6 : au 65185151242703554760590262029100101153646988597309960020356494379340201592426774597868707822 Qw := rc (cd cI) (cx de) cP
theorem Uc : ∀ i, au 65185151242703554760590262029100101153646988597309960020356494379340201592426774597868716015 (afC i) := rb (cd cI) (cx de)
theorem T7 : au 65185151242703554753522873769986563835313798594338285957046558781934205445657307593505242892 Qx := rc (cd cI) (cx de) cP
theorem T8 : au 65185151242703554308277413445833712780322828407122819968520616769278227999012544867765059340 Qy := rc (cd cI) (cx de) cP
theorem T9 : au 65185151235115004400333507845820953080117617868238058305309074364546789052601137534592876428 Qz := rc (cd cI) (cx de) cP
theorem Ua : au 65185135701352416954757694673404846565495735458055247603240324354937403366909450757007736716 QA := rc (cd cI) (cx de) cP
theorem Ub : au 64930521745661743999806706318048928883515555048101717989026976823170903929956357509595791276 QB := rc (cd cI) (cx de) cP
theorem bQ (x4 : Value) (H : AH) : d7 x4 H =
 some ((vb false), H) :=
 (by kernel_rfl)
theorem NM (x0 x4 x13 : Value) (H : AH) : Ru x0 x4 x13 H =
 (FF bK [x0] H).bind fun r45 =>
 ad [.n, .f 11] x0 fun v46 =>
 (aq v46 r45.2).bind fun v47 =>
 bD (aq v46 H) (aq v46 r45.2) <|
 ad [.n, .f 12] x0 fun v48 =>
 (aq v48 r45.2).bind fun v49 =>
 bD (aq v48 H) (aq v48 r45.2) <|
 (FF gk [r45.1, v47, v49] r45.2).bind fun r50 =>
 ax r50.1
 (st 1 [.n, .f 6] x0 (vi 15) r50.2 fun H51 =>
 d7 x4 H51)
 ((ai .other .eql x13 (vi 1)).bind fun v52 =>
 ax v52
 (st 1 [.n, .f 6] x0 (vi 9) r50.2 fun H53 =>
 d7 x4 H53)
 (st 1 [.n, .f 6] x0 (vi 12) r50.2 fun H54 =>
 d7 x4 H54)) :=
 (bt rfl (b5 [1, 1, 1, 1, 0, 1, 4, 1, 3, 1, 3, 1, 3, 1, 3, 1, 3, 1, 3, 1, 2, 1, 1, 4]) 1 Uc (by kernel_rfl))
theorem kV (x0 x1 x4 x6 x297 : Value) (H : AH) : j2 x0 x1 x4 x6 x297 H =
 ax x297
 ((FF ahH [x0, x1] H).bind fun r90 =>
 some (r90.1, r90.2))
 ((FF aaN [x0, x6] H).bind fun r91 =>
 some (r91.1, r91.2)) :=
 (by kernel_rfl)
theorem B0 (x0 x1 x4 x5 x6 x93 x283 : Value) (H : AH) : Rv x0 x1 x4 x5 x6 x93 x283 H =
 ax x283
 (ld [.n, .f 6] x5 H fun v85 =>
 ld [.n, .f 1] x0 H fun v86 =>
 (FF ip [v85, v86] H).bind fun r87 =>
 st 1 [.n, .f 6] x0 (vi 13) r87.2 fun H88 =>
 d7 x4 H88)
 ((ai .other .eql x93 (vi 15)).bind fun v92 =>
 ax v92
 (j2 x0 x1 x4 x6 v92 H)
 ((ai .other .eql x93 (vi 16)).bind fun v93 =>
 ax v93
 (j2 x0 x1 x4 x6 v93 H)
 ((ai .other .eql x93 (vi 17)).bind fun v94 =>
 ax v94
 (j2 x0 x1 x4 x6 v94 H)
 ((ai .other .eql x93 (vi 18)).bind fun v95 =>
 j2 x0 x1 x4 x6 v95 H)))) :=
 (ct rfl (b5 [1, 1, 1, 1, 0, 1, 4, 1, 3, 1, 3, 1, 3, 1, 3, 1, 3, 1, 3, 1, 3, 1, 3, 1, 3, 1, 3, 1, 2]) (b5 [1, 1, 1, 1, 0, 1, 4, 1, 3, 1, 3, 1, 3, 1, 3, 1, 3, 1, 3, 1, 3, 1, 3, 1, 3, 1, 3, 1, 3]) (.tmp 283) (by kernel_rfl) (pt rfl 0 Ub (by kernel_rfl)))
theorem sN (x0 x1 x4 x5 x6 x93 x272 : Value) (H : AH) : G8 x0 x1 x4 x5 x6 x93 x272 H =
 ax x272
 ((FF bK [x0] H).bind fun r79 =>
 ad [.n, .f 1] x0 fun v80 =>
 (aq v80 r79.2).bind fun v81 =>
 bD (aq v80 H) (aq v80 r79.2) <|
 (FF dY [x0] r79.2).bind fun r82 =>
 bD (aq v80 r82.2) (aq v80 r79.2) <|
 (FF gm [r79.1, v81, r82.1] r82.2).bind fun r83 =>
 some ((vb true), r83.2))
 ((ai .other .eql x93 (vi 12)).bind fun v96 =>
 Rv x0 x1 x4 x5 x6 x93 v96 H) :=
 (ct rfl (b5 [1, 1, 1, 1, 0, 1, 4, 1, 3, 1, 3, 1, 3, 1, 3, 1, 3, 1, 3, 1, 3, 1, 3, 1, 3, 1, 2]) (b5 [1, 1, 1, 1, 0, 1, 4, 1, 3, 1, 3, 1, 3, 1, 3, 1, 3, 1, 3, 1, 3, 1, 3, 1, 3, 1, 3]) (.tmp 272) (by kernel_rfl) (pt rfl 0 Ua (by kernel_rfl)))
theorem sM (x0 x1 x4 x5 x6 x7 x93 x248 : Value) (H : AH) : uB x0 x1 x4 x5 x6 x7 x93 x248 H =
 ax x248
 ((FF bK [x0] H).bind fun r68 =>
 ad [.n, .f 1] x0 fun v69 =>
 (aq v69 r68.2).bind fun v70 =>
 bD (aq v69 H) (aq v69 r68.2) <|
 (FF dY [x0] r68.2).bind fun r71 =>
 bD (aq v69 r71.2) (aq v69 r68.2) <|
 (aD 3 x7 r71.2).bind fun v72 =>
 bD (aD 3 x7 H) (aD 3 x7 r71.2) <|
 bD (aD 3 x7 r68.2) (aD 3 x7 r71.2) <|
 (FF kP [r68.1, v70, r71.1, v72] r71.2).bind fun r73 =>
 st 1 [.n, .f 6] x0 (vi 11) r73.2 fun H74 =>
 ld [.n, .f 13] x0 H74 fun v75 =>
 (ai .other .eql v75 (vw 1)).bind fun v76 =>
 ax v76
 (st 1 [.n, .f 6] x0 (vi 21) H74 fun H77 =>
 d7 x4 H77)
 (d7 x4 H74))
 ((ai .other .eql x93 (vi 11)).bind fun v97 =>
 G8 x0 x1 x4 x5 x6 x93 v97 H) :=
 (ct rfl (b5 [1, 1, 1, 1, 0, 1, 4, 1, 3, 1, 3, 1, 3, 1, 3, 1, 3, 1, 3, 1, 3, 1, 3, 1, 2]) (b5 [1, 1, 1, 1, 0, 1, 4, 1, 3, 1, 3, 1, 3, 1, 3, 1, 3, 1, 3, 1, 3, 1, 3, 1, 3]) (.tmp 248) (by kernel_rfl) (pt rfl 0 T9 (by kernel_rfl)))
theorem sL (x0 x1 x4 x5 x6 x7 x93 x242 : Value) (H : AH) : G7 x0 x1 x4 x5 x6 x7 x93 x242 H =
 ax x242
 ((FF i8 [x0, x1] H).bind fun r66 =>
 d7 x4 r66.2)
 ((ai .other .eql x93 (vi 10)).bind fun v98 =>
 ax v98
 (uB x0 x1 x4 x5 x6 x7 x93 v98 H)
 ((ai .other .eql x93 (vi 14)).bind fun v99 =>
 uB x0 x1 x4 x5 x6 x7 x93 v99 H)) :=
 (ct rfl (b5 [1, 1, 1, 1, 0, 1, 4, 1, 3, 1, 3, 1, 3, 1, 3, 1, 3, 1, 3, 1, 3, 1, 2]) (b5 [1, 1, 1, 1, 0, 1, 4, 1, 3, 1, 3, 1, 3, 1, 3, 1, 3, 1, 3, 1, 3, 1, 3]) (.tmp 242) (by kernel_rfl) (pt rfl 0 T8 (by kernel_rfl)))
theorem nW (x0 x1 x4 x5 x6 x7 x93 x197 : Value) (H : AH) : G6 x0 x1 x4 x5 x6 x7 x93 x197 H =
 ax x197
 ((FF bK [x0] H).bind fun r55 =>
 ad [.n, .f 1] x0 fun v56 =>
 (aq v56 r55.2).bind fun v57 =>
 bD (aq v56 H) (aq v56 r55.2) <|
 (FF gl [r55.1, v57] r55.2).bind fun r58 =>
 st 1 [.n, .f 12] x0 r58.1 r58.2 fun H59 =>
 ld [.n, .f 11] x0 H59 fun v60 =>
 (FF fh [v60] H59).bind fun r61 =>
 (aj r61.1 0).bind fun v62 =>
 (aj r61.1 1).bind fun v63 =>
 (aj r61.1 2).bind fun v64 =>
 Ru x0 x4 v63 r61.2)
 ((ai .other .eql x93 (vi 9)).bind fun v100 =>
 ax v100
 (G7 x0 x1 x4 x5 x6 x7 x93 v100 H)
 ((ai .other .eql x93 (vi 13)).bind fun v101 =>
 G7 x0 x1 x4 x5 x6 x7 x93 v101 H)) :=
 (ct rfl (b5 [1, 1, 1, 1, 0, 1, 4, 1, 3, 1, 3, 1, 3, 1, 3, 1, 3, 1, 3, 1, 2]) (b5 [1, 1, 1, 1, 0, 1, 4, 1, 3, 1, 3, 1, 3, 1, 3, 1, 3, 1, 3, 1, 3]) (.tmp 197) (pt rfl 1 T6 (by kernel_rfl)) (pt rfl 0 T7 (by kernel_rfl)))
theorem BZ (x0 x1 x4 x5 x6 x7 x93 x186 : Value) (H : AH) : Rt x0 x1 x4 x5 x6 x7 x93 x186 H =
 ax x186
 (st 1 [.n, .f 6] x0 (vi 8) H fun H38 =>
 (FF gn [x0] H38).bind fun r39 =>
 (ai .other .eql r39.1 (vi 2)).bind fun v40 =>
 ax v40
 (st 1 [.n, .f 6] x0 (vi 3) r39.2 fun H41 =>
 d7 x4 H41)
 (d7 x4 r39.2))
 ((ai .other .eql x93 (vi 8)).bind fun v102 =>
 G6 x0 x1 x4 x5 x6 x7 x93 v102 H) :=
 (ct rfl (b5 [1, 1, 1, 1, 0, 1, 4, 1, 3, 1, 3, 1, 3, 1, 3, 1, 3, 1, 2]) (b5 [1, 1, 1, 1, 0, 1, 4, 1, 3, 1, 3, 1, 3, 1, 3, 1, 3, 1, 3]) (.tmp 186) (by kernel_rfl) (pt rfl 0 T5 (by kernel_rfl)))
theorem sK (x0 x1 x4 x5 x6 x7 x93 x171 : Value) (H : AH) : G5 x0 x1 x4 x5 x6 x7 x93 x171 H =
 ax x171
 (ld [.n, .f 1] x0 H fun v33 =>
 ld [.n, .f 10] x0 H fun v34 =>
 (FF jL [x5, v33, v34] H).bind fun r35 =>
 st 1 [.n, .f 6] x0 (vi 7) r35.2 fun H36 =>
 d7 x4 H36)
 ((ai .other .eql x93 (vi 7)).bind fun v103 =>
 Rt x0 x1 x4 x5 x6 x7 x93 v103 H) :=
 (ct rfl (b5 [1, 1, 1, 1, 0, 1, 4, 1, 3, 1, 3, 1, 3, 1, 3, 1, 2]) (b5 [1, 1, 1, 1, 0, 1, 4, 1, 3, 1, 3, 1, 3, 1, 3, 1, 3]) (.tmp 171) (by kernel_rfl) (pt rfl 0 T4 (by kernel_rfl)))
theorem BY (x0 x1 x4 x5 x6 x7 x93 x151 : Value) (H : AH) : Rs x0 x1 x4 x5 x6 x7 x93 x151 H =
 ax x151
 (ld [.n, .f 7] x5 H fun v26 =>
 ld [.n, .f 1] x0 H fun v27 =>
 (FF gI [v26, v27, x6] H).bind fun r28 =>
 ld [.n, .f 9] x0 r28.2 fun v29 =>
 (ot .not v29).bind fun v30 =>
 ax v30
 (some ((vb true), r28.2))
 (st 1 [.n, .f 6] x0 (vi 6) r28.2 fun H31 =>
 d7 x4 H31))
 ((ai .other .eql x93 (vi 6)).bind fun v104 =>
 G5 x0 x1 x4 x5 x6 x7 x93 v104 H) :=
 (ct rfl (b5 [1, 1, 1, 1, 0, 1, 4, 1, 3, 1, 3, 1, 3, 1, 2]) (b5 [1, 1, 1, 1, 0, 1, 4, 1, 3, 1, 3, 1, 3, 1, 3]) (.tmp 151) (by kernel_rfl) (pt rfl 0 T3 (by kernel_rfl)))
theorem sJ (x0 x1 x4 x5 x6 x7 x93 x133 : Value) (H : AH) : Rq x0 x1 x4 x5 x6 x7 x93 x133 H =
 ax x133
 ((FF Q3 [x0] H).bind fun r19 =>
 (aj r19.1 0).bind fun v20 =>
 (aj r19.1 1).bind fun v21 =>
 ax v20
 (st 1 [.n, .f 6] x0 (vi 5) r19.2 fun H22 =>
 d7 x4 H22)
 (ax v21
 ((FF cr [x0, x1, (vi 5)] r19.2).bind fun r23 =>
 st 1 [.n, .f 6] x0 (vi 5) r23.2 fun H24 =>
 d7 x4 H24)
 (d7 x4 r19.2)))
 ((ai .other .eql x93 (vi 5)).bind fun v105 =>
 Rs x0 x1 x4 x5 x6 x7 x93 v105 H) :=
 (ct rfl (b5 [1, 1, 1, 1, 0, 1, 4, 1, 3, 1, 3, 1, 2]) (b5 [1, 1, 1, 1, 0, 1, 4, 1, 3, 1, 3, 1, 3]) (.tmp 133) (by kernel_rfl) (pt rfl 0 T0 (by kernel_rfl)))
theorem nU (x0 x1 x4 x5 x6 x7 x93 x112 : Value) (H : AH) : Rp x0 x1 x4 x5 x6 x7 x93 x112 H =
 ax x112
 (ld [.n, .f 7] x5 H fun v12 =>
 ld [.n, .f 1] x0 H fun v13 =>
 (FF i6 [v12, v13, x6] H).bind fun r14 =>
 ax r14.1
 (st 1 [.n, .f 6] x0 (vi 4) r14.2 fun H15 =>
 st 1 [.n, .f 7] x0 (vi 0) H15 fun H16 =>
 st 1 [.n, .f 9] x0 (vb false) H16 fun H17 =>
 d7 x4 H17)
 (d7 x4 r14.2))
 ((ai .other .eql x93 (vi 4)).bind fun v106 =>
 Rq x0 x1 x4 x5 x6 x7 x93 v106 H) :=
 (ct rfl (b5 [1, 1, 1, 1, 0, 1, 4, 1, 3, 1, 2]) (b5 [1, 1, 1, 1, 0, 1, 4, 1, 3, 1, 3]) (.tmp 112) (by kernel_rfl) (pt rfl 0 TZ (by kernel_rfl)))
theorem nb (x0 x1 x4 x5 x6 x7 x93 x97 : Value) (H : AH) : NN x0 x1 x4 x5 x6 x7 x93 x97 H =
 ax x97
 ((FF Q3 [x0] H).bind fun r6 =>
 (aj r6.1 0).bind fun v7 =>
 (aj r6.1 1).bind fun v8 =>
 ax v7
 (st 1 [.n, .f 6] x0 (vi 6) r6.2 fun H9 =>
 d7 x4 H9)
 (ax v8
 (st 1 [.n, .f 6] x0 (vi 3) r6.2 fun H10 =>
 d7 x4 H10)
 (d7 x4 r6.2)))
 ((ai .other .eql x93 (vi 3)).bind fun v107 =>
 Rp x0 x1 x4 x5 x6 x7 x93 v107 H) :=
 (ct rfl (b5 [1, 1, 1, 1, 0, 1, 4, 1, 2]) (b5 [1, 1, 1, 1, 0, 1, 4, 1, 3]) (.tmp 97) (by kernel_rfl) (pt rfl 0 TY (by kernel_rfl)))
theorem kj (x0 x1 x4 x5 x6 x7 x93 : Value) (H : AH) : nV x0 x1 x4 x5 x6 x7 x93 H =
 (ai .other .eql x93 (vi 2)).bind fun v108 =>
 NN x0 x1 x4 x5 x6 x7 x93 v108 H :=
 (bt rfl (b5 [1, 1, 1, 1, 0, 1, 4]) 0 de (pt rfl 0 Yq (by kernel_rfl)))
theorem Ef (x0 x1 x4 x5 x6 x7 : Value) (H : AH) : NL x0 x1 x4 x5 x6 x7 H =
 ld [.n, .f 6] x0 H fun v109 =>
 nV x0 x1 x4 x5 x6 x7 v109 H :=
 (pt rfl 0 cI (pt rfl 0 Yo (by kernel_rfl)))
theorem Ee (x0 x1 x4 x5 x6 x7 : Value) (H : AH) : NK x0 x1 x4 x5 x6 x7 H =
 ld [.n, .f 6] x0 H fun v110 =>
 (ai .other .eql v110 (vi 0)).bind fun v111 =>
 ax v111
 (ld [.n, .f 2, .f 2] x0 H fun v112 =>
 (ai .other .lss v112 (vi 1)).bind fun v113 =>
 (gV v113 false x0).bind fun v114 =>
 fu v113 false  [.n, .f 2, .f 2] v114 H fun v115 =>
 (gB v113 false (ai .other .gtr v115 (vi 65536))).bind fun v116 =>
 (aQ v113 (vb true) v116).bind fun v117 =>
 ax v117
 ((FF cr [x0, x1, (vi 3)] H).bind fun r118 =>
 some ((vb true), r118.2))
 (ld [.n, .f 2, .f 1] x0 H fun v119 =>
 (ai .other .lss v119 (vi 0)).bind fun v120 =>
 (gV v120 false x0).bind fun v121 =>
 fu v120 false  [.n, .f 2, .f 1] v121 H fun v122 =>
 (gB v120 false (ai .other .gtr v122 (vi 1048576))).bind fun v123 =>
 (aQ v120 (vb true) v123).bind fun v124 =>
 ax v124
 ((FF cr [x0, x1, (vi 5)] H).bind fun r125 =>
 some ((vb true), r125.2))
 (st 1 [.n, .f 6] x0 (vi 2) H fun H126 =>
 NL x0 x1 x4 x5 x6 x7 H126)))
 (NL x0 x1 x4 x5 x6 x7 H) :=
 (pt rfl 0 Ym (by kernel_rfl))
noncomputable def rTE (x0 x1 : Value) (H : AH) : OV := aU PP GG FF (b5 []) (ls [x0, x1] 303) H fe bq fe
theorem ajF (x0 x1 : Value) (H : AH) {r : Value × AH} (h : (
 ad [.n, .f 0] x0 fun v127 =>
 (aq v127 H).bind fun v128 =>
 ld [.n, .f 0] x0 H fun v129 =>
 ld [.n, .f 7] v129 H fun v130 =>
 ld [.n, .f 2, .f 1] x0 H fun v131 =>
 (FF eS [v130, v131] H).bind fun r132 =>
 bD (aq v127 r132.2) (aq v127 H) <|
 ld [.n, .f 2, .f 1] x0 r132.2 fun v133 =>
 ld [.n, .f 2, .f 2] x0 r132.2 fun v134 =>
 ld [.n, .f 2, .f 3] x0 r132.2 fun v135 =>
 g6 [(0, 1), (1, 1), (2, 1)] [(vi 0), (vi 0), (vi 0)] [(0, v133), (1, v134), (2, v135)] fun v136 =>
 aV [(vi 0), (vi 0), (vi 0)] r132.2 fun v137 H138 =>
 (dn 3 v137 v136 H138).bind fun H139 =>
 NK x0 x1 (vb false) v128 r132.1 v137 H139) = some r) : FF dB [x0, x1] H = some r :=
 fo (t := rTE x0 x1 H) Tryz.func43 (by kernel_rfl) (Eq.trans (pt rfl 2 Yk (by kernel_rfl)) h)
theorem Jn (x0 x1 : Value) (H : AH) {r : Value × AH} (h : (
 aV [(vi 0), (.slice none 0 0), (vi 0), (vw 0)] H fun v0 H1 =>
 ax x1
 (ldN 4 [.n, .f 17] x0 H1 fun v2 =>
 (dn 4 v0 v2 H1).bind fun H3 =>
 (aD 4 v0 H3).bind fun v4 => some (v4, H3))
 (g6 [(0, 1), (1, 1), (2, 1), (3, 1)] [(vi 0), (.slice none 0 0), (vi 0), (vw 0)] [] fun v5 =>
 (dn 4 v0 v5 H1).bind fun H6 =>
 (aD 4 v0 H6).bind fun v7 => some (v7, H6))) = some r) : FF sj [x0, x1] H = some r :=
 fo Tryz.func44 (by kernel_rfl) h
theorem nJ (x0 x1 : Value) (H : AH) {r : Value × AH} (h : (
 (FF sf [x0, x1, (.func (.func bE) #[] #[])] H).bind fun r0 =>
 some (r0.1, r0.2)) = some r) : FF dm [x0, x1] H = some r :=
 fo Tryz.func45 (by kernel_rfl) h
theorem t3 (x0 : Value) (H : AH) {r : Value × AH} (h : (
 ld [.n, .f 1] x0 H fun v0 =>
 (FF aaP [v0] H).bind fun r1 =>
 some (r1.1, r1.2)) = some r) : FF fC [x0] H = some r :=
 fo Tryz.func46 (by kernel_rfl) h
noncomputable def rn (p : List Nat) : Code := Code.sub (bG Tryz.f47) p
noncomputable def o7 : KK := dR PP (Tryz.f47).results.toList
noncomputable def Yu : KK := CQ (rn [1, 1]) o7 bq o7
noncomputable def w4 (x0 x1 x2 x6 : Value) (H : AH) : OV := Yu (ls [x0, x1, x2, u, u, u, x6] 23) H
noncomputable def Mv : KK := CQ (rn [1, 1, 1]) o7 bq o7
noncomputable def Ys : KK := dd 1073741759 Mv
noncomputable def w5 (x6 : Value) (H : AH) : OV := Mv (ls [u, u, u, u, u, u, x6] 23) H
noncomputable def Yw : KK := CQ (rn [1, 1, 0, 1]) Ys bq o7
noncomputable def w6 (x0 x1 x2 x6 x7 : Value) (H : AH) : OV := Yw (ls [x0, x1, x2, u, u, u, x6, x7] 22) H
noncomputable def My : KX := BX 0 Ys bq
noncomputable def Ga : KX := ml 1073741759 My
noncomputable def Mw : KK := ri (rn [1, 1, 0, 1, 4, 5]) Ga o7
noncomputable def Yt : KK := dd 1073741624 Mw
noncomputable def lw (x0 x1 x2 x6 x7 : Value) (H : AH) : OV := Mw (ls [x0, x1, x2, u, u, u, x6, x7] 22) H
noncomputable def Yy : KK := CQ (rn [1, 1, 0, 1, 4, 5, 1]) Yt Ga o7
noncomputable def w7 (x0 x1 x2 x6 x7 : Value) (H : AH) : OV := Yy (ls [x0, x1, x2, u, u, u, x6, x7] 22) H
noncomputable def Mx : KK := CQ (rn [1, 1, 0, 1, 4, 5, 1, 1]) Yt Ga o7
noncomputable def aiL : KK := dd 1073741624 Mx
noncomputable def w8 (x0 x1 x2 x6 x7 : Value) (H : AH) : OV := Mx (ls [x0, x1, x2, u, u, u, x6, x7] 22) H
noncomputable def aiM : KX := BX 1 aiL Ga
noncomputable def ru (x6 : Value) (H : AH) : OV := My 0 (ls [u, u, u, u, u, u, x6] 23) H
theorem ll : au 1073741759 o7 := rf
theorem Yv : au 1073741752 Yu := rc ll aB ll
theorem AL : au 1073741759 Mv := rc ll aB ll
theorem Yx : au 1073741624 Yw := rc (cd AL) aB ll
theorem o8 : ∀ i, au 1073741759 (My i) := rb (cd AL) aB
theorem tD : au 1073741624 Mw := rl (cx o8) ll
theorem Yz : au 1073741624 Yy := rc (cd tD) (cx o8) ll
theorem IZ : au 1073741624 Mx := rc (cd tD) (cx o8) ll
theorem YA : ∀ i, au 1073741624 (aiM i) := rb (cd IZ) (cx o8)
theorem Be (x6 : Value) (H : AH) : w5 x6 H =
 some ((vb true), H) :=
 (by kernel_rfl)
theorem Bh (x0 x1 x2 x6 x7 : Value) (H : AH) : w8 x0 x1 x2 x6 x7 H =
 (ai .other .add x7 (vi 1)).bind fun v7 =>
 lw x0 x1 x2 x6 v7 H :=
 (by kernel_rfl)
theorem Bg (x0 x1 x2 x6 x7 : Value) (H : AH) : w7 x0 x1 x2 x6 x7 H =
 ldN 7 [.i 7 x7] x0 H fun v9 =>
 ldN 7 [.i 7 x7] x1 H fun v10 =>
 (bM x2 [v9, v10]).bind fun c => (FF c.1 c.2 H).bind fun r11 =>
 (ot .not r11.1).bind fun v12 =>
 ax v12
 (some ((vb false), r11.2))
 (w8 x0 x1 x2 x6 x7 r11.2) :=
 (pt rfl 0 IZ (bt rfl (rn [1, 1, 0, 1, 4, 5, 1, 0, 4]) 1 YA (by kernel_rfl)))
theorem vq (x6 : Value) (H : AH) : ru x6 H = w5 x6 H :=
 (by kernel_rfl)
theorem pi (x0 x1 x2 x6 x7 : Value) (H : AH) : lw x0 x1 x2 x6 x7 H =
 dG x0 fun v13 =>
 (ai .other .lss x7 v13).bind fun v14 =>
 ax v14
 (w7 x0 x1 x2 x6 x7 H)
 (ru x6 H) :=
 rG rfl tD (pt rfl 0 Yz (by kernel_rfl))
theorem Bf (x0 x1 x2 x6 x7 : Value) (H : AH) : w6 x0 x1 x2 x6 x7 H =
 lw x0 x1 x2 x6 x7 H :=
 (bt rfl (rn [1, 1, 0, 1, 4]) 0 o8 (li rfl (rn [1, 1, 0, 1, 4, 5]) tD (by kernel_rfl)))
theorem Bd (x0 x1 x2 x6 : Value) (H : AH) : w4 x0 x1 x2 x6 H =
 w6 x0 x1 x2 x6 (vi 0) H :=
 (pt rfl 0 AL (pt rfl 0 Yx (by kernel_rfl)))
noncomputable def ZW (x0 x1 x2 : Value) (H : AH) : OV := aU PP GG FF (rn []) (ls [x0, x1, x2] 27) H o7 bq o7
theorem Jf (x0 x1 x2 : Value) (H : AH) {r : Value × AH} (h : (
 dG x0 fun v15 =>
 dG x1 fun v16 =>
 (ai .other .neq v15 v16).bind fun v17 =>
 ax v17
 (some ((vb false), H))
 (w4 x0 x1 x2 (vb false) H)) = some r) : FF nK [x0, x1, x2] H = some r :=
 fo (t := ZW x0 x1 x2 H) Tryz.func47 (by kernel_rfl) (Eq.trans (pt rfl 1 Yv (by kernel_rfl)) h)
noncomputable def I0 (p : List Nat) : Code := Code.sub (bG Tryz.f51) p
noncomputable def wM : KK := dR PP (Tryz.f51).results.toList
noncomputable def YC : KK := CQ (I0 [1, 1, 1, 1, 1, 1]) wM bq wM
noncomputable def mR (x1 x2 x4 x5 x6 x7 x8 x9 : Value) (H : AH) : OV := YC (ls [u, x1, x2, u, x4, x5, x6, x7, x8, x9] 132) H
noncomputable def Mz : KK := CQ (I0 [1, 1, 1, 1, 1, 1, 1]) wM bq wM
noncomputable def YB : KK := dd 5575186299632655785383929568162090376495087 Mz
noncomputable def iT (x4 : Value) (H : AH) : OV := Mz (ls [u, u, u, u, x4] 137) H
noncomputable def YE : KK := CQ (I0 [1, 1, 1, 1, 1, 1, 0, 1]) YB bq wM
noncomputable def mS (x2 x4 x5 x6 x7 x8 x9 x56 : Value) (H : AH) : OV := YE (ls [u, u, x2, u, x4, x5, x6, x7, x8, x9, u, u, u, u, u, u, u, u, u, u, u, u, u, u, u, u, u, u, u, u, u, u, u, u, u, u, u, u, u, u, u, u, u, u, u, u, u, u, u, u, u, u, u, u, u, u, x56] 85) H
noncomputable def aiN : KX := BX 0 YB bq
theorem tE : au 5575186299632655785383929568162090376495087 wM := rf
theorem YD : au 5575186299632655785383929568162090376494089 YC := rc tE aB tE
theorem AM : au 5575186299632655785383929568162090376495087 Mz := rc tE aB tE
theorem YF : au 5575186299632655785383929496104496338566155 YE := rc (cd AM) aB tE
theorem YG : ∀ i, au 5575186299632655785383929568162090376495087 (aiN i) := rb (cd AM) aB
theorem jR (x4 : Value) (H : AH) : iT x4 H =
 some ((vb true), H) :=
 (by kernel_rfl)
theorem qW (x2 x4 x5 x6 x7 x8 x9 x56 : Value) (H : AH) : mS x2 x4 x5 x6 x7 x8 x9 x56 H =
 (ai .other .eql x56 (vi 0)).bind fun v4 =>
 ax v4
 (ld [.f 0] x2 H fun v5 =>
 (FF gH [v5, (vi 5)] H).bind fun r6 =>
 ld [.f 1] x2 r6.2 fun v7 =>
 (FF i5 [v7, (vi 5)] r6.2).bind fun r8 =>
 iT x4 r8.2)
 ((ai .other .eql x56 (vi 1)).bind fun v9 =>
 ax v9
 ((FF ja [x6, (vi 5), x8] H).bind fun r10 =>
 (FF eF [x7, (vi 5), x8, (vi 1)] r10.2).bind fun r11 =>
 (ai .bool .eql r10.1 r11.1).bind fun v12 =>
 some (v12, r11.2))
 ((ai .other .eql x56 (vi 2)).bind fun v13 =>
 ax v13
 ((FF i9 [x6, (vi 5), x9] H).bind fun r14 =>
 (FF jM [x7, (vi 5), x9] r14.2).bind fun r15 =>
 iT x4 r15.2)
 (ld [.f 1] x2 H fun v16 =>
 ld [.n, .f 10] v16 H fun v17 =>
 ld [.i 3 x5, .f 0] v17 H fun v18 =>
 ld [.f 0] x2 H fun v19 =>
 ld [.n, .f 2] v19 H fun v20 =>
 ld [.f 1] x2 H fun v21 =>
 ld [.n, .f 0, .f 0] v21 H fun v22 =>
 (ai .other .rem v18 v22).bind fun v23 =>
 ld [.f 1] x2 H fun v24 =>
 ld [.n, .f 0, .f 0] v24 H fun v25 =>
 (ai .other .quo v18 v25).bind fun v26 =>
 (FF fT [v20, (vi 5), v23, v26] H).bind fun r27 =>
 ld [.f 1] x2 r27.2 fun v28 =>
 ld [.n, .f 7] v28 r27.2 fun v29 =>
 ld [.f 1] x2 r27.2 fun v30 =>
 ld [.n, .f 0, .f 0] v30 r27.2 fun v31 =>
 (ai .other .rem v18 v31).bind fun v32 =>
 ld [.f 1] x2 r27.2 fun v33 =>
 ld [.n, .f 0, .f 0] v33 r27.2 fun v34 =>
 (ai .other .quo v18 v34).bind fun v35 =>
 (FF iu [v29, (vi 5), v32, v35] r27.2).bind fun r36 =>
 (FF jb [x6, (vi 5), x8] r36.2).bind fun r37 =>
 (FF eF [x7, (vi 5), x8, (vi 2)] r37.2).bind fun r38 =>
 (ai .bool .eql r37.1 r38.1).bind fun v39 =>
 some (v39, r38.2)))) :=
 (bt rfl (I0 [1, 1, 1, 1, 1, 1, 0, 1, 4]) 0 YG (by kernel_rfl))
theorem qV (x1 x2 x4 x5 x6 x7 x8 x9 : Value) (H : AH) : mR x1 x2 x4 x5 x6 x7 x8 x9 H =
 (FF a9 [x1, (vi 4)] H).bind fun r40 =>
 mS x2 x4 x5 x6 x7 x8 x9 r40.1 r40.2 :=
 (pt rfl 0 AM (pt rfl 0 YF (by kernel_rfl)))
noncomputable def CZ (x0 x1 : Value) (H : AH) : OV := aU PP GG FF (I0 []) (ls [x0, x1] 140) H wM bq wM
theorem vE (x0 x1 : Value) (H : AH) {r : Value × AH} (h : (
 aV (Value.cells x0).toList H fun v41 H42 =>
 ld [.f 1] v41 H42 fun v43 =>
 ld [.n, .f 11] v43 H42 fun v44 =>
 dG v44 fun v45 =>
 (ai .other .eql v45 (vi 0)).bind fun v46 =>
 ax v46
 (some ((vb true), H42))
 ((ai .other .quo x1 (vi 4)).bind fun v47 =>
 ld [.f 1] v41 H42 fun v48 =>
 ld [.n, .f 11] v48 H42 fun v49 =>
 dG v49 fun v50 =>
 (FF a9 [v47, v50] H42).bind fun r51 =>
 ld [.f 0] v41 r51.2 fun v52 =>
 (FF ej [v52, r51.1] r51.2).bind fun r53 =>
 ad [.f 1] v41 fun v54 =>
 (aq v54 r53.2).bind fun v55 =>
 bD (aq v54 r51.2) (aq v54 r53.2) <|
 ad [.n, .f 11] v55 fun v56 =>
 (aq v56 r53.2).bind fun v57 =>
 bD (aq v56 r51.2) (aq v56 r53.2) <|
 ad [.i 1 r51.1] v57 fun v58 =>
 (aq v58 r53.2).bind fun v59 =>
 bD (aq v58 r51.2) (aq v58 r53.2) <|
 (ai .ptr .eql r53.1 (.pointer none)).bind fun v60 =>
 ax v60
 (some ((vb false), r53.2))
 (ad [.n, .f 0] v59 fun v61 =>
 (aq v61 r53.2).bind fun v62 =>
 (FF bB [(vi 11), r51.1, (vi 0)] r53.2).bind fun r63 =>
 bD (aq v61 r63.2) (aq v61 r53.2) <|
 (FF iq [v62, r63.1] r63.2).bind fun r64 =>
 ad [.n, .f 0] v59 fun v65 =>
 (aq v65 r64.2).bind fun v66 =>
 bD (aq v65 r53.2) (aq v65 r64.2) <|
 bD (aq v65 r63.2) (aq v65 r64.2) <|
 (FF bB [(vi 12), r51.1, (vi 0)] r64.2).bind fun r67 =>
 bD (aq v65 r67.2) (aq v65 r64.2) <|
 (FF iq [v66, r67.1] r67.2).bind fun r68 =>
 mR x1 v41 (vb false) r51.1 r53.1 v59 r64.1 r68.1 r68.2))) = some r) : FF jJ [x0, x1] H = some r :=
 fo (t := CZ x0 x1 H) Tryz.func51 (by kernel_rfl) (Eq.trans (pt rfl 5 YD (by kernel_rfl)) h)
noncomputable def QC (p : List Nat) : Code := Code.sub (bG Tryz.f71) p
noncomputable def AN : KK := dR PP (Tryz.f71).results.toList
noncomputable def YH : KK := CQ (QC [1, 1]) AN bq AN
noncomputable def zP (x0 x4 x5 x6 : Value) (H : AH) : OV := YH (ls [x0, u, u, u, x4, x5, x6] 27) H
noncomputable def MA : KK := CQ (QC [1, 1, 1]) AN bq AN
noncomputable def aiO : KK := dd 17179869134 MA
noncomputable def zQ (x0 x4 x5 : Value) (H : AH) : OV := MA (ls [x0, u, u, u, x4, x5] 28) H
noncomputable def aiP : KX := BX 0 aiO bq
theorem y3 : au 17179869135 AN := rf
theorem YI : au 17179869070 YH := rc y3 aB y3
theorem I1 : au 17179869134 MA := rc y3 aB y3
theorem YJ : ∀ i, au 17179869134 (aiP i) := rb (cd I1) aB
theorem CR (x0 x4 x5 : Value) (H : AH) : zQ x0 x4 x5 H =
 (FF bk [x0, (.func (.func iY) #[x0] #[])] H).bind fun r2 =>
 (aj r2.1 0).bind fun v3 =>
 (aj r2.1 1).bind fun v4 =>
 (dn 4 x4 v3 r2.2).bind fun H5 =>
 (aD 4 x4 H5).bind fun v6 => some (Value.tuple #[v6, v4], H5) :=
 (by kernel_rfl)
theorem CP (x0 x4 x5 x6 : Value) (H : AH) : zP x0 x4 x5 x6 H =
 ld [.n, .f 10] x0 H fun v8 =>
 ax v8
 ((FF bk [x0, (.func (.func fB) #[x0] #[])] H).bind fun r9 =>
 (aj r9.1 0).bind fun v10 =>
 (aj r9.1 1).bind fun v11 =>
 (dn 4 x4 v10 r9.2).bind fun H12 =>
 (aD 4 x4 H12).bind fun v13 => some (Value.tuple #[v13, v11], H12))
 (ax x6
 ((FF bk [x0, (.func (.func cA) #[x0] #[])] H).bind fun r14 =>
 (aj r14.1 0).bind fun v15 =>
 (aj r14.1 1).bind fun v16 =>
 (dn 4 x4 v15 r14.2).bind fun H17 =>
 (aD 4 x4 H17).bind fun v18 => some (Value.tuple #[v18, v16], H17))
 (zQ x0 x4 x5 H)) :=
 (pt rfl 0 I1 (bt rfl (QC [1, 1, 0, 4]) 0 YJ (by kernel_rfl)))
noncomputable def aeN (x0 x1 : Value) (H : AH) : OV := aU PP GG FF (QC []) (ls [x0, x1] 32) H AN bq AN
theorem Lq (x0 x1 : Value) (H : AH) {r : Value × AH} (h : (
 aV [(vi 0), (.slice none 0 0), (vi 0), (vw 0)] H fun v19 H20 =>
 (FF t5 [x0] H20).bind fun r21 =>
 zP x0 v19 (vb false) r21.1 r21.2) = some r) : FF iY [x0, x1] H = some r :=
 fo (t := aeN x0 x1 H) Tryz.func71 (by kernel_rfl) (Eq.trans (pt rfl 1 YI (by kernel_rfl)) h)
theorem te (x0 x1 : Value) (H : AH) {r : Value × AH} (h : (
 (FF ie [x0] H).bind fun r0 =>
 (FF ie [x1] r0.2).bind fun r1 =>
 ax r0.1
 (ax r1.1
 (some ((vi 0), r1.2))
 (some ((vi (-1)), r1.2)))
 (ax r1.1
 (some ((vi 1), r1.2))
 ((ai .other .lss x0 x1).bind fun v2 =>
 ax v2
 (some ((vi (-1)), r1.2))
 ((ai .other .gtr x0 x1).bind fun v3 =>
 ax v3
 (some ((vi 1), r1.2))
 (some ((vi 0), r1.2)))))) = some r) : FF iV [x0, x1] H = some r :=
 fo Tryz.func73 (by kernel_rfl) h
theorem sG (x0 x1 x2 : Value) (H : AH) {r : Value × AH} (h : (
 ld [.n, .f 12] x0 H fun v0 =>
 vJ 2 1 [(vi 0)] [(0, x1), (1, x2)] H fun v1 H2 =>
 (dq 1 8 v0 v1 H2).bind fun r3 =>
 st 1 [.n, .f 12] x0 r3.1 r3.2 fun H4 =>
 some (Value.tuple #[], H4)) = some r) : FF ir [x0, x1, x2] H = some r :=
 fo Tryz.func77 (by kernel_rfl) h
noncomputable def Y5 (p : List Nat) : Code := Code.sub (bG Tryz.f78) p
noncomputable def AT : KK := dR PP (Tryz.f78).results.toList
noncomputable def Y6 : KK := CQ (Y5 [1, 1]) AT bq AT
noncomputable def kU (x0 x4 x5 : Value) (H : AH) : OV := Y6 (ls [x0, u, u, u, x4, x5] 15) H
noncomputable def Y8 : KK := CQ (Y5 [1, 1, 1]) AT bq AT
noncomputable def gN (x4 x5 : Value) (H : AH) : OV := Y8 (ls [u, u, u, u, x4, x5] 15) H
theorem y4 : au 2097135 AT := rf
theorem Y7 : au 2097102 Y6 := rc y4 aB y4
theorem Y9 : au 2097103 Y8 := rc y4 aB y4
theorem iL (x4 x5 : Value) (H : AH) : gN x4 x5 H =
 some (x5, H) :=
 (by kernel_rfl)
theorem oJ (x0 x4 x5 : Value) (H : AH) : kU x0 x4 x5 H =
 (ai .other .lss x5 (vi 0)).bind fun v2 =>
 ax v2
 (ld [.n, .f 1] x0 H fun v3 =>
 (ai .other .add x5 v3).bind fun v4 =>
 gN x4 v4 H)
 (gN x4 x5 H) :=
 (pt rfl 0 Y9 (by kernel_rfl))
noncomputable def yB (x0 x1 : Value) (H : AH) : OV := aU PP GG FF (Y5 []) (ls [x0, x1] 19) H AT bq AT
theorem sI (x0 x1 : Value) (H : AH) {r : Value × AH} (h : (
 ld [.n, .f 1] x0 H fun v5 =>
 (ai .other .rem x1 v5).bind fun v6 =>
 kU x0 (vi 0) v6 H) = some r) : FF eS [x0, x1] H = some r :=
 fo (t := yB x0 x1 H) Tryz.func78 (by kernel_rfl) (Eq.trans (pt rfl 1 Y7 (by kernel_rfl)) h)
theorem wi (x0 x1 x2 : Value) (H : AH) {r : Value × AH} (h : (
 g6 [(0, 1), (1, 1), (2, 1), (3, 1)] [(vi 0), (.slice none 0 0), (vi 0), (vw 0)] [(0, x2)] fun v0 =>
 st 4 [.n, .f 17] x0 v0 H fun H1 =>
 ld [.n, .f 0] x0 H1 fun v2 =>
 ld [.n, .f 1] x0 H1 fun v3 =>
 ldN 4 [.n, .f 17] x0 H1 fun v4 =>
 (FF aaM [v2, x1, v3, v4] H1).bind fun r5 =>
 some (Value.tuple #[], r5.2)) = some r) : FF cr [x0, x1, x2] H = some r :=
 fo Tryz.func79 (by kernel_rfl) h
noncomputable def Zh (p : List Nat) : Code := Code.sub (bG Tryz.f80) p
noncomputable def AV : KK := dR PP (Tryz.f80).results.toList
noncomputable def Zi : KK := CQ (Zh [1, 1, 1]) AV bq AV
noncomputable def abU (x0 x2 x3 x6 : Value) (H : AH) : OV := Zi (ls [x0, u, x2, x3, u, u, x6] 88) H
noncomputable def Zk : KK := CQ (Zh [1, 1, 1, 1]) AV bq AV
noncomputable def Ha (x0 x2 x3 : Value) (H : AH) : OV := Zk (ls [x0, u, x2, x3] 91) H
theorem y5 : au 39614081257132168796771975155 AV := rf
theorem Zj : au 39614081257132168796771975090 Zi := rc y5 aB y5
theorem Zl : au 39614081257132168796771975154 Zk := rc y5 aB y5
theorem Va (x0 x2 x3 : Value) (H : AH) : Ha x0 x2 x3 H =
 ld [.n, .f 7] x0 H fun v2 =>
 (ai .other .add v2 (vi 1)).bind fun v3 =>
 st 1 [.n, .f 7] x0 v3 H fun H4 =>
 ld [.n, .f 7] x0 H4 fun v5 =>
 ld [.n, .f 0] x0 H4 fun v6 =>
 ld [.n, .f 7] v6 H4 fun v7 =>
 ld [.n, .f 2] v7 H4 fun v8 =>
 (ai .other .geq v5 v8).bind fun v9 =>
 some (Value.tuple #[(vb false), v9], H4) :=
 (by kernel_rfl)
theorem Eg (x0 x2 x3 x6 : Value) (H : AH) : abU x0 x2 x3 x6 H =
 (ot .not x6).bind fun v10 =>
 (gV v10 true x0).bind fun v11 =>
 fu v10 true  [.n, .f 8] v11 H fun v12 =>
 (gB v10 true (ai .other .lss v12 (vi 0))).bind fun v13 =>
 (aQ v10 v13 (vb false)).bind fun v14 =>
 ax v14
 (ld [.n, .f 7] x0 H fun v15 =>
 st 1 [.n, .f 8] x0 v15 H fun H16 =>
 Ha x0 x2 x3 H16)
 (Ha x0 x2 x3 H) :=
 (pt rfl 0 Zl (by kernel_rfl))
noncomputable def rTs (x0 : Value) (H : AH) : OV := aU PP GG FF (Zh []) (ls [x0] 94) H AV bq AV
theorem ajG (x0 : Value) (H : AH) {r : Value × AH} (h : (
 ad [.n, .f 0] x0 fun v17 =>
 (aq v17 H).bind fun v18 =>
 ad [.n, .f 7] v18 fun v19 =>
 (aq v19 H).bind fun v20 =>
 ad [.n, .f 1] x0 fun v21 =>
 (aq v21 H).bind fun v22 =>
 ld [.n, .f 0] x0 H fun v23 =>
 ld [.n, .f 7] v23 H fun v24 =>
 ld [.n, .f 2, .f 1] x0 H fun v25 =>
 (FF eS [v24, v25] H).bind fun r26 =>
 bD (aq v17 r26.2) (aq v17 H) <|
 bD (aq v19 r26.2) (aq v19 H) <|
 bD (aq v21 r26.2) (aq v21 H) <|
 ad [.n, .f 7] x0 fun v27 =>
 (aq v27 r26.2).bind fun v28 =>
 bD (aq v27 H) (aq v27 r26.2) <|
 (FF i7 [v20, v22, r26.1, v28] r26.2).bind fun r29 =>
 (aj r29.1 0).bind fun v30 =>
 (aj r29.1 1).bind fun v31 =>
 (aj r29.1 2).bind fun v32 =>
 (gV v32 true v30).bind fun v33 =>
 (gV v32 true x0).bind fun v34 =>
 fu v32 true  [.n, .f 2, .f 1] v34 r29.2 fun v35 =>
 (gB v32 true (ai .other .eql v33 v35)).bind fun v36 =>
 (aQ v32 v36 (vb false)).bind fun v37 =>
 ax v37
 (st 1 [.n, .f 9] x0 (vb true) r29.2 fun H38 =>
 st 1 [.n, .f 10] x0 v31 H38 fun H39 =>
 some (Value.tuple #[(vb true), (vb false)], H39))
 (abU x0 (vb false) (vb false) v32 r29.2)) = some r) : FF Q3 [x0] H = some r :=
 fo (t := rTs x0 H) Tryz.func80 (by kernel_rfl) (Eq.trans (pt rfl 2 Zj (by kernel_rfl)) h)
theorem vW (x0 x1 x2 : Value) (H : AH) {r : Value × AH} (h : (
 aV [(vi 0), (vi 0), (vw 0)] H fun v0 H1 =>
 (ai .other .lss x2 (vi 0)).bind fun v2 =>
 (gV v2 false x2).bind fun v3 =>
 (gV v2 false x0).bind fun v4 =>
 fu v2 false  [.n, .f 10] v4 H1 fun v5 =>
 (uY (yv v2) false (dG v5 some) (some undef)).bind fun v6 =>
 (gB v2 false (ai .other .geq v3 v6)).bind fun v7 =>
 (aQ v2 (vb true) v7).bind fun v8 =>
 ax v8
 (g6 [(0, 1), (1, 1), (2, 1)] [(vi 0), (vi 0), (vw 0)] [] fun v9 =>
 (dn 3 v0 v9 H1).bind fun H10 =>
 (aD 3 v0 H10).bind fun v11 => some (v11, H10))
 (ad [.n, .f 5] x0 fun v12 =>
 (aq v12 H1).bind fun v13 =>
 (FF bB [(vi 13), x2, (vi 0)] H1).bind fun r14 =>
 bD (aq v12 r14.2) (aq v12 H1) <|
 (FF bO [v13, x1, (vi 5), r14.1] r14.2).bind fun r15 =>
 ld [.n, .f 10] x0 r15.2 fun v16 =>
 ldN 3 [.i 3 x2] v16 r15.2 fun v17 =>
 (dn 3 v0 v17 r15.2).bind fun H18 =>
 (aD 3 v0 H18).bind fun v19 => some (v19, H18))) = some r) : FF jL [x0, x1, x2] H = some r :=
 fo Tryz.func83 (by kernel_rfl) h
theorem wl (x0 : Value) (H : AH) {r : Value × AH} (h : (
 (FF bK [x0] H).bind fun r0 =>
 ad [.n, .f 1] x0 fun v1 =>
 (aq v1 r0.2).bind fun v2 =>
 bD (aq v1 H) (aq v1 r0.2) <|
 (FF jN [r0.1, v2] r0.2).bind fun r3 =>
 st 1 [.n, .f 11] x0 r3.1 r3.2 fun H4 =>
 ld [.n, .f 11] x0 H4 fun v5 =>
 (FF fh [v5] H4).bind fun r6 =>
 (aj r6.1 0).bind fun v7 =>
 (aj r6.1 1).bind fun v8 =>
 (aj r6.1 2).bind fun v9 =>
 some (v8, r6.2)) = some r) : FF gn [x0] H = some r :=
 fo Tryz.func84 (by kernel_rfl) h
theorem wj (x0 : Value) (H : AH) {r : Value × AH} (h : (
 ld [.n, .f 0] x0 H fun v0 =>
 ld [.n, .f 11] v0 H fun v1 =>
 ld [.n, .f 10] x0 H fun v2 =>
 ld [.i 1 v2] v1 H fun v3 =>
 some (v3, H)) = some r) : FF bK [x0] H = some r :=
 fo Tryz.func85 (by kernel_rfl) h
theorem wa (x0 x1 : Value) (H : AH) {r : Value × AH} (h : (
 ad [.n, .f 0] x0 fun v0 =>
 (aq v0 H).bind fun v1 =>
 ld [.n, .f 1] x0 H fun v2 =>
 (FF bB [(vi 12), v2, (vi 0)] H).bind fun r3 =>
 bD (aq v0 r3.2) (aq v0 H) <|
 (FF dg [v1, x1, r3.1] r3.2).bind fun r4 =>
 some (r4.1, r4.2)) = some r) : FF gl [x0, x1] H = some r :=
 fo Tryz.func86 (by kernel_rfl) h
theorem vZ (x0 x1 x2 : Value) (H : AH) {r : Value × AH} (h : (
 (FF fh [x1] H).bind fun r0 =>
 (aj r0.1 0).bind fun v1 =>
 (aj r0.1 1).bind fun v2 =>
 (aj r0.1 2).bind fun v3 =>
 (ai .other .geq v1 x2).bind fun v4 =>
 (gV v4 true v1).bind fun v5 =>
 (gV v4 true x2).bind fun v6 =>
 (gB v4 true (ai .other .sub v5 v6)).bind fun v7 =>
 (gV v4 true x0).bind fun v8 =>
 fu v4 true  [.n, .f 2] v8 r0.2 fun v9 =>
 (gB v4 true (bJ (some .u64) v9)).bind fun v10 =>
 (gB v4 true (ai .other .geq v7 v10)).bind fun v11 =>
 (aQ v4 v11 (vb false)).bind fun v12 =>
 some (v12, r0.2)) = some r) : FF gk [x0, x1, x2] H = some r :=
 fo Tryz.func88 (by kernel_rfl) h
noncomputable def QH (p : List Nat) : Code := Code.sub (bG Tryz.f89) p
noncomputable def wO : KK := dR PP (Tryz.f89).results.toList
noncomputable def Zm : KK := CQ (QH [1]) wO bq wO
noncomputable def lM (x0 x1 : Value) (H : AH) : OV := Zm (ls [x0, x1] 48) H
noncomputable def Zo : KK := CQ (QH [1, 1]) wO bq wO
noncomputable def eZ (x0 x1 : Value) (H : AH) : OV := Zo (ls [x0, x1] 48) H
noncomputable def aiV : KX := BX 0 wO bq
theorem tH : au 1125899906842623 wO := rf
theorem Zn : au 1125899906842620 Zm := rc tH aB tH
theorem Zp : au 1125899906842620 Zo := rc tH aB tH
theorem Zq : ∀ i, au 1125899906842623 (aiV i) := rb tH aB
theorem pN (x0 x1 : Value) (H : AH) : eZ x0 x1 H =
 (FF bK [x0] H).bind fun r3 =>
 ad [.n, .f 1] x0 fun v4 =>
 (aq v4 r3.2).bind fun v5 =>
 bD (aq v4 H) (aq v4 r3.2) <|
 ad [.n, .f 11] x0 fun v6 =>
 (aq v6 r3.2).bind fun v7 =>
 bD (aq v6 H) (aq v6 r3.2) <|
 (FF eF [r3.1, v5, v7, (vi 0)] r3.2).bind fun r8 =>
 ax r8.1
 ((FF cr [x0, x1, (vi 0)] r8.2).bind fun r9 =>
 ld [.n, .f 6] x0 r9.2 fun v10 =>
 (ai .other .add v10 (vi 1)).bind fun v11 =>
 st 1 [.n, .f 6] x0 v11 r9.2 fun H12 =>
 some (Value.tuple #[], H12))
 (ld [.n, .f 6] x0 r8.2 fun v13 =>
 (ai .other .eql v13 (vi 9)).bind fun v14 =>
 ax v14
 (st 1 [.n, .f 6] x0 (vi 7) r8.2 fun H15 =>
 some (Value.tuple #[], H15))
 (st 1 [.n, .f 6] x0 (vi 20) r8.2 fun H16 =>
 some (Value.tuple #[], H16))) :=
 (bt rfl (QH [1, 1, 4]) 0 Zq (by kernel_rfl))
theorem pM (x0 x1 : Value) (H : AH) : lM x0 x1 H =
 ld [.n, .f 6] x0 H fun v17 =>
 (ai .other .eql v17 (vi 13)).bind fun v18 =>
 ax v18
 (st 1 [.n, .f 13] x0 (vw 1) H fun H19 =>
 eZ x0 x1 H19)
 (eZ x0 x1 H) :=
 (pt rfl 0 Zp (by kernel_rfl))
noncomputable def BS (x0 x1 : Value) (H : AH) : OV := aU PP GG FF (QH []) (ls [x0, x1] 48) H wO bq wO
theorem uy (x0 x1 : Value) (H : AH) {r : Value × AH} (h : (
 st 1 [.n, .f 13] x0 (vw 0) H fun H20 =>
 lM x0 x1 H20) = some r) : FF i8 [x0, x1] H = some r :=
 fo (t := BS x0 x1 H) Tryz.func89 (by kernel_rfl) (Eq.trans (pt rfl 0 Zn (by kernel_rfl)) h)
theorem yA (x0 x1 x2 x3 : Value) (H : AH) {r : Value × AH} (h : (
 aV (Value.cells x3).toList H fun v0 H1 =>
 ad [.n, .f 0] x0 fun v2 =>
 (aq v2 H1).bind fun v3 =>
 ad [.n, .f 1] x0 fun v4 =>
 (aq v4 H1).bind fun v5 =>
 (FF du [x0, x2] H1).bind fun r6 =>
 bD (aq v2 r6.2) (aq v2 H1) <|
 bD (aq v4 r6.2) (aq v4 H1) <|
 (FF bB [(vi 16), v5, r6.1] r6.2).bind fun r7 =>
 bD (aq v2 r7.2) (aq v2 H1) <|
 (FF bO [v3, x1, (vi 6), r7.1] r7.2).bind fun r8 =>
 ad [.n, .f 3] x0 fun v9 =>
 (aq v9 r8.2).bind fun v10 =>
 (FF du [x0, x2] r8.2).bind fun r11 =>
 bD (aq v9 r11.2) (aq v9 r8.2) <|
 (aD 3 v0 r11.2).bind fun v12 =>
 bD (aD 3 v0 r8.2) (aD 3 v0 r11.2) <|
 st 3 [.i 3 r11.1] v10 v12 r11.2 fun H13 =>
 some (Value.tuple #[], H13)) = some r) : FF kP [x0, x1, x2, x3] H = some r :=
 fo Tryz.func90 (by kernel_rfl) h
theorem uz (x0 : Value) (H : AH) {r : Value × AH} (h : (
 ld [.n, .f 11] x0 H fun v0 =>
 (FF fh [v0] H).bind fun r1 =>
 (aj r1.1 0).bind fun v2 =>
 (aj r1.1 1).bind fun v3 =>
 (aj r1.1 2).bind fun v4 =>
 some (v2, r1.2)) = some r) : FF dY [x0] H = some r :=
 fo Tryz.func91 (by kernel_rfl) h
end Go.Proofs.YtodpbobjmkhcfaaGreatDoor.Gst
