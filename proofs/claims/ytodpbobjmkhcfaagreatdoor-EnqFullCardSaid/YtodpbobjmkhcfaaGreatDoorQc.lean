/- Several texts in one. -/
import Derived.Test.YtodpbobjmkhcfaaGreatDoorQb
namespace Go.Proofs.YtodpbobjmkhcfaaGreatDoor.Gst
open Go Go.RowKit
set_option linter.unusedSimpArgs false
set_option linter.unusedVariables false
set_option maxHeartbeats 1000000
set_option maxRecDepth 100000
set_option synthInstance.maxSize 2000
set_option synthInstance.maxHeartbeats 400000
def sl (e : Nat) (v : Value) (n : Nat) (cs : List Value) : SP := ex fun ob : Option Nat => match ob with
 | none => pu (v = .slice none 0 0 ∧ n = 0 ∧ cs = [])
 | some b => pu (v = vs b n e ∧ cs.length = n * e) * blk b (.cells false cs)
theorem Nr {R : SP} {H : AH} (e : Nat) (h : ae R H) : ae (sl e (.slice none 0 0) 0 [] * R) H := ae.ex.2 ⟨none, ae.pu.2 ⟨⟨rfl, rfl, rfl⟩, h⟩⟩
theorem s7 {R : SP} {H : AH} {e b n : Nat} {cs : List Value} (hl : cs.length = n * e) (h : ae (blk b (.cells false cs) * R) H) : ae (sl e (vs b n e) n cs * R) H :=
 ae.ex.2 ⟨some b, by rw [ap]; exact ae.pu.2 ⟨⟨rfl, hl⟩, h⟩⟩
theorem pr {R : SP} {H : AH} {e n : Nat} {v : Value} {cs : List Value} (h : ae (sl e v n cs * R) H) : (v = .slice none 0 0 ∧ n = 0 ∧ cs = [] ∧ ae R H) ∨ ∃ b, v = vs b n e ∧ cs.length = n * e ∧ ae (blk b (.cells false cs) * R) H := by
 obtain ⟨ob, h⟩ := ae.ex.1 h
 cases ob with
 | none =>
  obtain ⟨⟨h1, h2, h3⟩, h4⟩ := ae.pu.1 h
  exact .inl ⟨h1, h2, h3, h4⟩
 | some b =>
  simp only [ap] at h
  obtain ⟨⟨h1, h2⟩, h4⟩ := ae.pu.1 h
  exact .inr ⟨b, h1, h2, h4⟩
class Sl (P : SP) (e : Nat) (v : Value) (n : outParam Nat) (cs : outParam (List Value)) (R : outParam SP) : Prop where
 eq : P = sl e v n cs * R
instance (priority := high) Sl.refl (e n : Nat) (v : Value) (cs : List Value) : Sl (sl e v n cs) e v n cs emp := ⟨(gN _).symm⟩
instance Sl.left (P Q R : SP) (e n : Nat) (v : Value) (cs : List Value) [h : Sl P e v n cs R] : Sl (P * Q) e v n cs (R * Q) := ⟨by rw [h.eq, ap]⟩
instance Sl.right (P Q R : SP) (e n : Nat) (v : Value) (cs : List Value) [h : Sl Q e v n cs R] : Sl (P * Q) e v n cs (P * R) := ⟨by rw [h.eq, bQ]⟩
theorem Sl.fr {P R : SP} (e : Nat) {n : Nat} (v : Value) {cs : List Value} [h : Sl P e v n cs R] {H : AH} (k : ae P H) : ae (sl e v n cs * R) H := by rw [← h.eq]; exact k
section
variable {P P' R : SP} {H : AH} {b o n m e k : Nat} {ro : Bool} {cs xcs : List Value} {v s x : Value} {Q : Value → AH → Prop}
theorem Zd {bytes : Nat} {kk : Value × AH → OV} (h : ae P H) [f : Sl P e s n cs R] [i : Hs R b (.cells ro xcs)] (hl : xcs.length = k * e) (he : 0 < e) (hk0 : 0 < k) (hc : xcs.all Value.oneCell' = true)
 (hr : (n + k) * bytes ≤ cC ∧ n + k ≤ cC) (hk : ∀ a c H', ae (sl e (.slice a (n + k) c) (n + k) (cs ++ xcs) * R) H' → wp (kk (.slice a (n + k) c, H')) Q) : wp ((dN e bytes s (vs b k e) H).bind kk) Q := by
 have hf := Sl.fr e s h
 have hg := i.get hf.right
 have hrow : jd e (vs b k e) H = some (k, xcs) := by
  simp only [jd, dn, hg, Option.bind_some]
  rw [if_neg (by omega), if_pos (by omega)]
  simp [← hl]
 unfold dN
 rw [hrow]
 simp only [Option.bind_some]
 rw [if_pos ⟨hc, he⟩]
 rcases pr hf with ⟨rfl, rfl, rfl, h'⟩ | ⟨b', rfl, hcl, h'⟩
 ·simp only [and_self, if_true]
  rw [if_neg (by omega), if_pos (by simpa using hr)]
  simp only [Option.bind_some, Nat.zero_add, List.nil_append] at hk ⊢
  exact hk _ _ _ (s7 hl (h'.push _))
 ·simp only
  have hgb := h'.left.get
  rw [if_neg (by omega), if_neg (by omega), hgb]
  simp only
  rw [if_pos ⟨trivial, by omega, hr.1, hr.2⟩]
  simp only [Option.bind_some, List.drop_zero]
  rw [← hcl, List.take_length]
  have h2 := h'.dead.push (.cells false (cs ++ xcs))
  rw [AH.size_set] at h2
  exact hk _ _ _ (s7 (by rw [List.length_append, hcl, hl, Nat.add_mul]) h2)
end
abbrev bV := Int × Int × Int
def dl (l : bV) : Value := .agg #[vi l.1, vi l.2.1, vi l.2.2]
instance tg.loc (l : bV) : tg (dl l) [vi l.1, vi l.2.1, vi l.2.2] := ⟨rfl⟩
structure Ev where
 who : Int
 kind : Int
 loc : bV
deriving DecidableEq
def Ev.cells (e : Ev) : List Value := [vi e.who, vi e.kind, vi e.loc.1, vi e.loc.2.1, vi e.loc.2.2]
def lV (E : List Ev) : List Value := E.flatMap Ev.cells
theorem BT (E : List Ev) (x : Ev) : lV (E ++ [x]) = lV E ++ x.cells := by simp [lV]
section
variable {α : Type} {enc : α → List Value} {e : Nat}
theorem nF (he : ∀ x, (enc x).length = e) (l : List α) : (l.flatMap enc).length = l.length * e := by
 induction l with
 | nil => simp
 | cons x l ih => rw [List.flatMap_cons, List.length_append, he, ih, List.length_cons, Nat.add_mul]; omega
theorem Pm (he : ∀ x, (enc x).length = e) : ∀ (l : List α) (i : Nat), (l.flatMap enc).drop (i * e) = (l.drop i).flatMap enc := by
 intro l
 induction l with
 | nil => intro i; simp
 | cons x l ih =>
  intro i
  cases i with
  | zero => simp
  | succ i =>
   rw [List.flatMap_cons, List.drop_append, he, show (i + 1) * e - e = i * e from by rw [Nat.add_mul]; omega, ih, List.drop_eq_nil_of_le (by rw [he, Nat.add_mul]; omega)]
   rfl
theorem mm (l : List α) (i : Nat) (hi : i < l.length) : l.flatMap enc = (l.take i).flatMap enc ++ (enc l[i] ++ (l.drop (i + 1)).flatMap enc) := by
 rw [← List.flatMap_cons, ← List.flatMap_append, List.getElem_cons_drop, List.take_append_drop]
theorem FC (l : List α) (i : Nat) (hi : i < l.length) (y : α) : (l.set i y).flatMap enc = (l.take i).flatMap enc ++ (enc y ++ (l.drop (i + 1)).flatMap enc) := by
 rw [← List.flatMap_cons, ← List.flatMap_append, List.set_eq_take_append_cons_drop, if_pos hi]
theorem oD (he : ∀ x, (enc x).length = e) (l : List α) (i : Nat) (hi : i < l.length) : ((l.take i).flatMap enc).length = i * e := by
 rw [nF he, List.length_take, Nat.min_eq_left (by omega)]
theorem CW (he : ∀ x, (enc x).length = e) (l : List α) (i : Nat) (hi : i < l.length) : ((l.flatMap enc).drop (i * e)).take e = enc l[i] := by
 rw [mm l i hi, List.drop_append, oD he l i hi, Nat.sub_self, List.drop_zero, List.drop_eq_nil_of_le (by rw [oD he l i hi]; omega), List.nil_append, List.take_append, he, Nat.sub_self, List.take_zero, List.append_nil,
  List.take_of_length_le (by rw [he]; omega)]
theorem yd (he : ∀ x, (enc x).length = e) (l : List α) (i : Nat) (hi : i < l.length) (f : Nat) (hf : f < e) : (l.flatMap enc)[i * e + f]? = (enc l[i])[f]? := by
 rw [mm l i hi, List.getElem?_append_right (by rw [oD he l i hi]; omega), oD he l i hi, List.getElem?_append_left (by rw [he]; omega)]
 congr 1
 omega
theorem Kp (A X B xs : List Value) (f : Nat) (h : f + xs.length ≤ X.length) : splice (A ++ (X ++ B)) (A.length + f) xs = A ++ (splice X f xs ++ B) := by
 unfold splice
 rw [List.take_append, List.take_append, List.drop_append, List.drop_append, List.take_of_length_le (by omega), List.drop_eq_nil_of_le (by omega)]
 have e1 : A.length + f - A.length = f := by omega
 have e2 : A.length + f + xs.length - A.length = f + xs.length := by omega
 have e3 : f + xs.length - X.length = 0 := by omega
 have e4 : f - X.length = 0 := by omega
 rw [e1, e2, e3, e4]
 simp
theorem FD (he : ∀ x, (enc x).length = e) (l : List α) (i : Nat) (hi : i < l.length) (f : Nat) (xs : List Value) (hf : f + xs.length ≤ e) (y : α) (hy : splice (enc l[i]) f xs = enc y) :
 splice (l.flatMap enc) (i * e + f) xs = (l.set i y).flatMap enc := by
 rw [mm l i hi, FC l i hi, ← oD he l i hi, Kp _ _ _ _ _ (by rw [he]; exact hf), hy]
end
def ts {α : Type} (e : Nat) (enc : α → List Value) (v : Value) (l : List α) : SP := sl e v l.length (l.flatMap enc)
class Enc {α : Type} (enc : α → List Value) (e : outParam Nat) : Prop where
 len : ∀ x, (enc x).length = e
 one : ∀ x, (enc x).all Value.oneCell' = true
 pos : 0 < e
class Ts (P : SP) (s : Value) (α : outParam Type) (e : outParam Nat) (enc : outParam (α → List Value)) (l : outParam (List α)) (R : outParam SP) : Prop where
 eq : P = ts e enc s l * R
instance (priority := high) Ts.refl {α : Type} (e : Nat) (enc : α → List Value) (s : Value) (l : List α) : Ts (ts e enc s l) s α e enc l emp := ⟨(gN _).symm⟩
instance Ts.left {α : Type} (P Q R : SP) (e : Nat) (enc : α → List Value) (s : Value) (l : List α) [h : Ts P s α e enc l R] : Ts (P * Q) s α e enc l (R * Q) := ⟨by rw [h.eq, ap]⟩
instance Ts.right {α : Type} (P Q R : SP) (e : Nat) (enc : α → List Value) (s : Value) (l : List α) [h : Ts Q s α e enc l R] : Ts (P * Q) s α e enc l (P * R) := ⟨by rw [h.eq, bQ]⟩
class Tu (P : SP) (s : Value) {α : Type} (l' : List α) (P' : outParam SP) : Prop where
 up : ∃ e enc, ∃ (l : List α), ∃ R, P = ts e enc s l * R ∧ P' = ts e enc s l' * R
theorem eH {α : Type} {R : SP} {H : AH} (e : Nat) (enc : α → List Value) (h : ae R H) : ae (ts e enc (.slice none 0 0) [] * R) H := Nr e h
section
variable {α : Type} {P P' R : SP} {H : AH} {b o e : Nat} {ro : Bool} {enc : α → List Value} {l : List α} {xcs : List Value} {s : Value} {Q : Value → AH → Prop}
theorem mz (h : ae P H) [f : Ts P s α e enc l R] : (s = .slice none 0 0 ∧ l = [] ∧ ae R H) ∨ ∃ b, s = vs b l.length e ∧ ae (blk b (.cells false (l.flatMap enc)) * R) H := by
 have h' : ae (ts e enc s l * R) H := by rw [← f.eq]; exact h
 rcases pr h' with ⟨h1, h2, _, h4⟩ | ⟨b, h1, _, h3⟩
 ·exact .inl ⟨h1, List.eq_nil_of_length_eq_zero h2, h4⟩
 ·exact .inr ⟨b, h1, h3⟩
theorem wn {b : Nat} [E : Enc enc e] (h : ae (blk b (.cells false (l.flatMap enc)) * R) H) : ae (ts e enc (vs b l.length e) l * R) H := s7 (nF E.len l) h
theorem mB {k : Value → OV} (h : ae P H) [f : Ts P s α e enc l R] (hk : wp (k (vi l.length)) Q) : wp (iN s k) Q := by
 rcases mz (f := f) h with ⟨rfl, rfl, _⟩ | ⟨b, rfl, _⟩
 ·exact hk
 ·exact hk
theorem gQ {bytes : Nat} {kk : Value × AH → OV} (x : α) (h : ae P H) [f : Ts P s α e enc l R] [i : Hs R b (.cells ro xcs)] [E : Enc enc e] (hx : xcs = enc x)
 (hr : (l.length + 1) * bytes ≤ cC) (hb : 0 < bytes) (hk : ∀ a c H', ae (ts e enc (.slice a (l.length + 1) c) (l ++ [x]) * R) H' → wp (kk (.slice a (l.length + 1) c, H')) Q) : wp ((dN e bytes s (vs b 1 e) H).bind kk) Q := by
 have h' : ae (sl e s l.length (l.flatMap enc) * R) H := by
  have : P = ts e enc s l * R := f.eq
  rw [this] at h
  exact h
 subst hx
 refine Zd (k := 1) (ro := ro) (xcs := enc x) h' (by rw [E.len]; omega) E.pos (by omega) (E.one x) ⟨hr, ?_⟩ fun a c H' h2 => hk a c H' ?_
 ·have : l.length + 1 ≤ (l.length + 1) * bytes := Nat.le_mul_of_pos_right _ hb
  omega
 ·have e1 : (l ++ [x]).length = l.length + 1 := by simp
  have e2 : (l ++ [x]).flatMap enc = l.flatMap enc ++ enc x := by simp
  unfold ts
  rw [e1, e2]
  rw [oU] at h2
  exact h2
theorem Ec {k : Value → OV} {i : Nat} {kk : IntKind} (h : ae P H) [f : Ts P s α e enc l R] [E : Enc enc e] (hi : i < l.length) (hk : wp (k (.agg (enc l[i]).toArray)) Q) : wp (ldN e [.i e (.int kk (i : Int))] s H k) Q := by
 rcases mz (f := f) h with ⟨_, rfl, _⟩ | ⟨b, rfl, h'⟩
 ·simp at hi
 ·unfold ldN
  rw [K8 hi cg]
  have hlen := nF E.len l
  have hm : (i + 1) * e ≤ l.length * e := Nat.mul_le_mul_right _ (by omega)
  rw [Nat.add_mul] at hm
  have := I7 (b := b) (cs := l.flatMap enc) (ro := false) (n := e) (o := 0 + i * e) h' (by omega)
  rw [this, Option.bind_some, Nat.zero_add, CW E.len l i hi]
  exact hk
theorem aaT {k : Value → OV} {i : Nat} {kk : IntKind} {v : Value} (h : ae P H) [f : Ts P s α 1 enc l R] [E : Enc enc 1] (hi : i < l.length) (hv : enc l[i] = [v]) (hk : wp (k v) Q) : wp (ld [.i 1 (.int kk (i : Int))] s H k) Q := by
 rcases mz (f := f) h with ⟨_, rfl, _⟩ | ⟨b, rfl, h'⟩
 ·simp at hi
 ·unfold ld
  rw [K8 hi cg]
  have := I6 (b := b) (o := 0 + i * 1) (v := v) h' (by
   have := yd E.len l i hi 0 (by omega)
   rw [Nat.add_zero] at this
   rw [Nat.zero_add, this, hv]; rfl)
  rw [this]
  exact hk
theorem G4 {n : Nat} {p : List Stp} {k : AH → OV} {i g : Nat} {kk : IntKind} {v : Value} {xs : List Value} (y : α) (h : ae P H) [f : Ts P s α e enc l R] [E : Enc enc e] (hi : i < l.length) (hp : p = [.i e (.int kk (i : Int))] ∧ g = 0 ∨ p = [.i e (.int kk (i : Int)), .f g])
 [c : tg v xs] (hn : xs.length = n) (hg : g + n ≤ e) (hx : xs.all Value.oneCell' = true) (hy : splice (enc l[i]) g xs = enc y) (hk : ∀ H', ae (ts e enc s (l.set i y) * R) H' → wp (k H') Q) : wp (st n p s v H k) Q := by
 rcases mz (f := f) h with ⟨_, rfl, _⟩ | ⟨b, rfl, h'⟩
 ·simp at hi
 ·have hend : KN p (vs b l.length e) b (i * e + g) := by
   rcases hp with ⟨rfl, rfl⟩ | rfl
   ·intro R' k'
    rw [K8 hi cg]
    simp
   ·intro R' k'
    rw [K8 hi (ch cg)]
    simp
  unfold st
  have hc := c.eq
  subst hc
  rw [hend]
  have hlen := nF E.len l
  have hm : (i + 1) * e ≤ l.length * e := Nat.mul_le_mul_right _ (by omega)
  rw [Nat.add_mul] at hm
  rw [V6 h' (by simpa using hn) (by omega) hx, Option.bind_some, FD E.len l i hi g _ (by rw [hn]; exact hg) y hy]
  refine hk _ ?_
  have h2 := h'.set (.cells false ((l.set i y).flatMap enc))
  have h3 := wn (e := e) (enc := enc) (l := l.set i y) h2
  rw [List.length_set] at h3
  exact h3
end
instance : Enc Ev.cells 5 := ⟨fun _ => rfl, fun _ => rfl, by omega⟩
def jA (n : Int) : List Value := [vi n]
instance : Enc jA 1 := ⟨fun _ => rfl, fun _ => rfl, by omega⟩
def aaZ (H : AH) (s : Value) (e n : Nat) (cs : List Value) : Prop :=
 cs.length = n * e ∧ ((∃ a c, s = .slice a 0 c ∧ n = 0 ∧ (a = none → c = 0) ∧ (∀ x, a = some x → ∃ b o, x = ⟨b, o, none⟩)) ∨ ∃ b o ro row, s = .slice (some ⟨b, o, none⟩) n e ∧ H.get b = some (.cells ro row) ∧ o + n * e ≤ row.length ∧ (row.drop o).take (n * e) = cs)
class Rd {α : outParam Type} (P : SP) (s : Value) (e : outParam Nat) (enc : outParam (α → List Value)) (l : outParam (List α)) : Prop where
 rd : ∀ {H : AH}, ae P H → aaZ H s e l.length (l.flatMap enc)
instance Rd.left {α : Type} (P Q : SP) (s : Value) (e : Nat) (enc : α → List Value) (l : List α) [r : Rd P s e enc l] : Rd (P * Q) s e enc l := ⟨fun h => r.rd h.left⟩
instance Rd.right {α : Type} (P Q : SP) (s : Value) (e : Nat) (enc : α → List Value) (l : List α) [r : Rd Q s e enc l] : Rd (P * Q) s e enc l := ⟨fun h => r.rd h.right⟩
instance Rd.own {α : Type} (s : Value) (e : Nat) (enc : α → List Value) (l : List α) : Rd (ts e enc s l) s e enc l := ⟨by
 intro H h
 have h' : ae (ts e enc s l * emp) H := by rw [gN]; exact h
 rcases pr h' with ⟨rfl, h2, h3, _⟩ | ⟨b, rfl, hc, h4⟩
 ·exact ⟨by rw [h3, h2]; simp, .inl ⟨none, 0, rfl, h2, fun _ => rfl, fun x hx => by cases hx⟩⟩
 ·exact ⟨hc, .inr ⟨b, 0, false, _, rfl, h4.left.get, by omega, by rw [List.drop_zero, ← hc, List.take_length]⟩⟩⟩
section
variable {α : Type} {P R : SP} {H : AH} {e n : Nat} {enc : α → List Value} {l m : List α} {s : Value} {Q : Value → AH → Prop}
theorem zB {k : Value → OV} (h : ae P H) [r : Rd P s e enc l] (hk : wp (k (vi l.length)) Q) : wp (iN s k) Q := by
 obtain ⟨_, ⟨a, c, rfl, hn, _⟩ | ⟨b, o, ro, row, rfl, _⟩⟩ := r.rd h
 ·rw [hn] at hk; exact hk
 ·exact hk
theorem Z9 {R' : Type} {k : Value → Option R'} (h : ae P H) [r : Rd P s e enc l] : iN s k = k (vi l.length) := by
 obtain ⟨_, ⟨a, c, rfl, hn, _⟩ | ⟨b, o, ro, row, rfl, _⟩⟩ := r.rd h
 ·rw [hn]; rfl
 ·rfl
theorem px {k : Value → OV} (h : ae P H) [r : Rd P s e enc l] (hk : wp (k (vi l.length)) Q) : wp ((iN s some).bind k) Q := by
 rw [Z9 h]; exact hk
theorem JJ (h : ae P H) [r : Rd P s e enc l] [E : Enc enc e] {i : Nat} (hi : i < l.length) : ∃ b o ro row, s = .slice (some ⟨b, o, none⟩) l.length e ∧ H.get b = some (.cells ro row) ∧ o + l.length * e ≤ row.length ∧ (row.drop o).take (l.length * e) = l.flatMap enc := by
 obtain ⟨_, ⟨a, c, rfl, hn, _⟩ | ⟨b, o, ro, row, h1, h2⟩⟩ := r.rd h
 ·omega
 ·exact ⟨b, o, ro, row, h1, h2⟩
theorem XX [E : Enc enc e] {row : List Value} {o i g : Nat} (h : (row.drop o).take (l.length * e) = l.flatMap enc) (hi : i < l.length) (hg : g < e) : row[o + i * e + g]? = (enc l[i])[g]? := by
 rw [← yd E.len l i hi g hg, ← h]
 have hm : (i + 1) * e ≤ l.length * e := Nat.mul_le_mul_right _ (by omega)
 rw [Nat.add_mul] at hm
 rw [List.getElem?_take, if_pos (by omega), List.getElem?_drop]
 congr 1; omega
theorem Vu {i g : Nat} {kk : IntKind} {v : Value} (h : ae P H) [r : Rd P s e enc l] [E : Enc enc e] (hi : i < l.length) (hg : g < e) (hv : (enc l[i])[g]? = some v) {R' : Type} {p : List Stp} (hp : p = [.i e (.int kk (i : Int)), .f g] ∨ p = [.i e (.int kk (i : Int))] ∧ g = 0) {k : Value → Option R'} :
 ld p s H k = k v := by
 obtain ⟨b, o, ro, row, rfl, h2, h3, h4⟩ := JJ (s := s) (enc := enc) (l := l) h hi
 have hend : ad p (.slice (some ⟨b, o, none⟩) l.length e) = fun k' : Value → Option R' => k' (qY b (o + i * e + g)) := by
  rcases hp with rfl | ⟨rfl, rfl⟩
  ·funext k'; rw [Rn hi, aa2]; rfl
  ·funext k'; rw [Rn hi]; rfl
 unfold ld
 rw [hend]
 show (ar (qY b (o + i * e + g)) H).bind k = k v
 have : ar (qY b (o + i * e + g)) H = some v := by
  simp only [ar, qX, dn, Option.bind_some, h2]
  rw [XX h4 hi hg, hv]
 rw [this]; rfl
theorem Ws {k : Value → OV} {i g : Nat} {kk : IntKind} {v : Value} (h : ae P H) [r : Rd P s e enc l] [E : Enc enc e] (hi : i < l.length) (hg : g < e) (hv : (enc l[i])[g]? = some v) (hk : wp (k v) Q) : wp (ld [.i e (.int kk (i : Int)), .f g] s H k) Q := by
 rw [Vu h hi hg hv (.inl rfl)]; exact hk
theorem Eb {k : Value → OV} {i : Nat} {kk : IntKind} {v : Value} {enc : α → List Value} (h : ae P H) [r : Rd P s 1 enc l] [E : Enc enc 1] (hi : i < l.length) (hv : enc l[i] = [v]) (hk : wp (k v) Q) : wp (ld [.i 1 (.int kk (i : Int))] s H k) Q := by
 rw [Vu (g := 0) (v := v) h hi (by omega) (by rw [hv]; rfl) (.inr ⟨rfl, rfl⟩)]; exact hk
theorem aaS {k : Value → OV} {i : Nat} {kk : IntKind} (h : ae P H) [r : Rd P s e enc l] [E : Enc enc e] (hi : i < l.length) (hk : wp (k (.agg (enc l[i]).toArray)) Q) : wp (ldN e [.i e (.int kk (i : Int))] s H k) Q := by
 obtain ⟨b, o, ro, row, rfl, h2, h3, h4⟩ := JJ (s := s) (enc := enc) (l := l) h hi
 unfold ldN
 rw [Rn hi]
 have hm : (i + 1) * e ≤ l.length * e := Nat.mul_le_mul_right _ (by omega)
 rw [Nat.add_mul] at hm
 have : aA e (qY b (o + i * e)) H = some (.agg (enc l[i]).toArray) := by
  simp only [aA, qX, dn, Option.bind_some, h2]
  rw [if_pos (by omega)]
  congr 3
  rw [← CW E.len l i hi, ← h4, List.drop_take, List.drop_drop, List.take_take, Nat.min_eq_left (by omega)]
 show wp ((aA e (qY b (o + i * e)) H).bind k) Q
 rw [this]; exact hk
theorem Vv {lo hi : Option Value} {a b : Nat} (h : ae P H) [r : Rd P s e enc l] [E : Enc enc e] (hlo : (lo = none ∧ a = 0) ∨ ∃ k, lo = some (.int k (a : Int))) (hhi : (hi = none ∧ b = l.length) ∨ ∃ k, hi = some (.int k (b : Int))) (h1 : a ≤ b) (h2 : b ≤ l.length) (h0 : 0 < l.length) :
 ∃ s', dD e s lo hi = some s' ∧ Rd P s' e enc ((l.take b).drop a) := by
 have hlen : ((l.take b).drop a).length = b - a := by rw [List.length_drop, List.length_take, Nat.min_eq_left h2]
 have hfl : (((l.take b).drop a).flatMap enc).length = (b - a) * e := by rw [nF E.len, hlen]
 have hsub : ((l.take b).drop a).flatMap enc = ((l.flatMap enc).drop (a * e)).take ((b - a) * e) := by
  have e2 : (l.drop a).take (b - a) = (l.take b).drop a := by rw [List.drop_take]
  rw [Pm E.len, ← e2]
  have gen : ∀ (m : List α) (k : Nat), k ≤ m.length → (m.take k).flatMap enc = (m.flatMap enc).take (k * e) := by
   intro m
   induction m with
   | nil => intro k hk; simp
   | cons x m ih =>
    intro k hk
    cases k with
    | zero => simp
    | succ k =>
     rw [List.take_succ_cons, List.flatMap_cons, List.flatMap_cons, ih k (by simpa using hk), List.take_append, E.len, List.take_of_length_le (l := enc x) (by rw [E.len, Nat.add_mul]; omega)]
     congr 2
     rw [Nat.add_mul, Nat.one_mul, Nat.add_sub_cancel]
  exact gen _ _ (by rw [List.length_drop]; omega)
 obtain ⟨h0, ⟨a0, c, rfl, hn, hc0, ha0⟩ | ⟨b0, o, ro, row, rfl, _⟩⟩ := r.rd h
 ·omega
 ·refine ⟨.slice (some ⟨b0, o + a * e, none⟩) (b - a) e, ?_, ⟨fun {H'} h' => ?_⟩⟩
  ·have hpos := E.pos
   have hab : (0 : Int) ≤ a ∧ (a : Int) ≤ b ∧ (b : Int) ≤ l.length := by omega
   rcases hlo with ⟨rfl, rfl⟩ | ⟨k1, rfl⟩ <;> rcases hhi with ⟨rfl, rfl⟩ | ⟨k2, rfl⟩ <;> simp only [dD, kE, Option.bind_some]
   ·rw [if_pos (by omega)]; simp [hpos]
   ·rw [if_pos (by omega)]; simp [hpos]
   ·rw [if_pos (by omega)]; simp [hpos]
   ·rw [if_pos (by omega)]; simp [hpos]
  ·obtain ⟨h0', hr⟩ := r.rd h'
   refine ⟨by rw [hfl, hlen], .inr ?_⟩
   rcases hr with ⟨a1, c1, e1, hn, _, _⟩ | ⟨b1, o1, ro1, row1, e1, g1, g2, g3⟩
   ·omega
   ·obtain ⟨rfl, rfl⟩ : b1 = b0 ∧ o1 = o := by
     have := e1; simp at this; exact ⟨this.1.symm, this.2.symm⟩
    have hm : b * e ≤ l.length * e := Nat.mul_le_mul_right _ h2
    have hm2 : a * e ≤ b * e := Nat.mul_le_mul_right _ h1
    have hm3 : (b - a) * e = b * e - a * e := Nat.sub_mul ..
    rw [hlen]
    refine ⟨b1, o1 + a * e, ro1, row1, rfl, g1, by omega, ?_⟩
    rw [hsub, ← g3, List.drop_take, List.drop_drop, List.take_take, Nat.min_eq_left (by omega)]
end
def XG (H0 : AH) : SP := fun h => h = fun i => H0.get i
theorem Pl (H0 : AH) : ae (XG H0) H0 := ⟨_, rfl, fun i o h => h⟩
class Fx (P : SP) (H0 : AH) : Prop where
 fx : ∀ {H : AH}, ae P H → ∀ b o, H0.get b = some o → H.get b = some o
instance Fx.refl (H0 : AH) : Fx (XG H0) H0 := ⟨by
 rintro H ⟨x, hx, hg⟩ b o hb
 have hx : x = _ := hx
 exact hg b o (by rw [hx]; exact hb)⟩
instance Fx.left (P Q : SP) (H0 : AH) [f : Fx P H0] : Fx (P * Q) H0 := ⟨fun h => f.fx h.left⟩
instance Fx.right (P Q : SP) (H0 : AH) [f : Fx Q H0] : Fx (P * Q) H0 := ⟨fun h => f.fx h.right⟩
theorem iT.flat {α : Type} {R : α → List Value → Prop} {enc : α → List Value} (hf : ∀ x c, R x c → c = enc x) {l : List α} {row : List Value} (h : iT R l row) : row = l.flatMap enc := by
 induction h with
 | nil => rfl
 | cons h1 _ ih => rw [hf _ _ h1, ih]; rfl
section
variable {α : Type} {P R : SP} {H : AH} {e : Nat} {enc : α → List Value} {l m : List α} {s x : Value} {Q : Value → AH → Prop}
theorem Ea {bytes : Nat} {kk : Value × AH → OV} (h : ae P H) [f : Ts P s α e enc l R] [rd : Rd R x e enc m] [E : Enc enc e] (hr : (l.length + m.length) * bytes ≤ cC) (hb : 0 < bytes)
 (hk : ∀ v H', ae (ts e enc v (l ++ m) * R) H' → wp (kk (v, H')) Q) : wp ((dN e bytes s x H).bind kk) Q := by
 have h' : ae (ts e enc s l * R) H := by rw [← f.eq]; exact h
 obtain ⟨hc, ⟨a, c, rfl, hn, _, hax⟩ | ⟨b, o, ro, row, rfl, hg, hle, hrow⟩⟩ := rd.rd h'.right
 ·have hm : m = [] := List.eq_nil_of_length_eq_zero hn
  subst hm
  have hpr : jd e (.slice a 0 c) H = some (0, []) := by
   cases a with
   | none => simp [jd]
   | some y => obtain ⟨b, o, rfl⟩ := hax y rfl; simp [jd]
  unfold dN
  rw [hpr]
  simp only [Option.bind_some]
  rw [if_pos ⟨rfl, E.pos⟩]
  rcases pr h' with ⟨rfl, h2, h3, h4⟩ | ⟨b', rfl, h2, h4⟩
  ·simp only [and_self, if_true, Option.bind_some]
   refine hk _ _ ?_
   rw [List.append_nil]; exact h'
  ·simp only [if_true, Option.bind_some]
   refine hk _ _ ?_
   rw [List.append_nil]; exact h'
 ·by_cases hm0 : m.length = 0
  ·have hm : m = [] := List.eq_nil_of_length_eq_zero hm0
   subst hm
   unfold dN
   have hpr : jd e (.slice (some ⟨b, o, none⟩) ([] : List α).length e) H = some (0, []) := by simp [jd]
   rw [hpr]
   simp only [Option.bind_some]
   rw [if_pos ⟨rfl, E.pos⟩]
   rcases pr h' with ⟨rfl, h2, h3, h4⟩ | ⟨b', rfl, h2, h4⟩
   ·simp only [and_self, if_true, Option.bind_some]
    refine hk _ _ ?_
    rw [List.append_nil]; exact h'
   ·simp only [if_true, Option.bind_some]
    refine hk _ _ ?_
    rw [List.append_nil]; exact h'
  ·have hpr : jd e (.slice (some ⟨b, o, none⟩) m.length e) H = some (m.length, m.flatMap enc) := by
    simp only [jd, dn, hg, Option.bind_some]
    rw [if_neg hm0, if_pos hle, hrow]
   have hall : (m.flatMap enc).all Value.oneCell' = true := by
    rw [List.all_eq_true]
    intro y hy
    obtain ⟨z, _, hz⟩ := List.mem_flatMap.1 hy
    exact List.all_eq_true.1 (E.one z) y hz
   have hroom : l.length + m.length ≤ (l.length + m.length) * bytes := Nat.le_mul_of_pos_right _ hb
   unfold dN
   rw [hpr]
   simp only [Option.bind_some]
   rw [if_pos ⟨hall, E.pos⟩]
   have e1 : (l ++ m).length = l.length + m.length := by simp
   have e2 : (l ++ m).flatMap enc = l.flatMap enc ++ m.flatMap enc := by simp
   have hmul : (l.length + m.length) * e = l.length * e + m.length * e := Nat.add_mul ..
   rcases pr h' with ⟨rfl, h2, h3, h4⟩ | ⟨b', rfl, h2, h4⟩
   ·simp only [and_self, if_true]
    rw [h2, Nat.zero_add] at hr hroom
    rw [if_neg hm0, if_pos ⟨hr, by omega⟩]
    simp only [Option.bind_some]
    refine hk _ _ ?_
    unfold ts
    rw [e1, e2, h3, h2, List.nil_append, Nat.zero_add]
    exact s7 hc (h4.push _)
   ·have hgb := h4.left.get
    have hpos := E.pos
    simp only
    rw [if_neg hm0, if_neg (by omega), hgb]
    simp only
    rw [if_pos ⟨trivial, by omega, hr, by omega⟩]
    simp only [Option.bind_some, List.drop_zero]
    rw [← h2, List.take_length]
    have h5 := h4.dead.push (.cells false (l.flatMap enc ++ m.flatMap enc))
    rw [AH.size_set] at h5
    refine hk _ _ ?_
    unfold ts
    rw [e1, e2]
    exact s7 (by rw [List.length_append, h2, hc]; omega) h5
theorem yY {z : α} {zero : List Value} (hz : enc z = zero) : ∀ n : Nat, (List.replicate n zero).flatten = (List.replicate n z).flatMap enc := by
 intro n
 induction n with
 | zero => rfl
 | succ n ih => rw [List.replicate_succ, List.replicate_succ, List.flatten_cons, List.flatMap_cons, ih, hz]
theorem KA {zero : List Value} {bytes n : Nat} {kk : Value × AH → OV} (z : α) (h : ae P H) [E : Enc enc e] (hz : enc z = zero) (hr : n * bytes ≤ cC) (hb : 0 < bytes) (hk : ∀ b H', ae (ts e enc (vs b n e) (List.replicate n z) * P) H' → wp (kk (vs b n e, H')) Q) :
 wp ((kG zero e bytes (vi n) (vi n) H).bind kk) Q := by
 have hroom : n ≤ n * bytes := Nat.le_mul_of_pos_right _ hb
 have hz2 : zero.length = e := by rw [← hz, E.len]
 unfold kG
 simp only [Int.toNat_natCast]
 rw [if_pos ⟨by omega, trivial, hr, by omega, E.pos, hz2⟩]
 simp only [Option.bind_some]
 refine hk _ _ ?_
 have h2 := h.push (.cells false (List.replicate n zero).flatten)
 rw [yY hz] at h2 ⊢
 have h3 := wn (e := e) (enc := enc) (l := List.replicate n z) h2
 rw [List.length_replicate] at h3
 exact h3
end
class KeyE {κ : Type} [DecidableEq κ] (cl : outParam KCls) (ek : κ → Value) : Prop where
 eq : ∀ a b, iL cl (ek a) (ek b) = some (decide (a = b))
 ok : ∀ a, gf cl (ek a) = true
inductive Ents {κ : Type} (ek : κ → Value) : List (κ × Value) → List MapEntry → Prop
 | nil : Ents ek [] []
 | cons {p : κ × Value} {l : List (κ × Value)} {e : MapEntry} {es : List MapEntry} (h1 : e.key = ek p.1) (h2 : e.val = p.2) (k : Ents ek l es) : Ents ek (p :: l) (e :: es)
section
variable {κ : Type} [DecidableEq κ] {ek : κ → Value} {cl : KCls}
def C8 : List (κ × Value) → κ → Option Value
 | [], _ => none
 | p :: al, k => if k = p.1 then some p.2 else C8 al k
def C9 : List (κ × Value) → κ → Value → List (κ × Value)
 | [], k, v => [(k, v)]
 | p :: al, k, v => if k = p.1 then (k, v) :: al else p :: C9 al k v
theorem UB (k : κ) (v : Value) (x : κ) : ∀ al, C8 (C9 al k v) x = if x = k then some v else C8 al x := by
 intro al
 induction al with
 | nil => simp only [C9, C8]
 | cons p al ih =>
  simp only [C9]
  by_cases hk : k = p.1
  ·rw [if_pos hk]
   simp only [C8]
   by_cases hx : x = k
   ·simp [hx]
   ·have : ¬ x = p.1 := by rw [← hk]; exact hx
    simp [hx, this]
  ·rw [if_neg hk]
   simp only [C8, ih]
   by_cases hx : x = p.1
   ·have : ¬ x = k := by rw [hx]; exact fun h => hk h.symm
    simp [hx]
    intro h; exact absurd h.symm hk
   ·simp [hx]
theorem ZU [K : KeyE cl ek] {al : List (κ × Value)} {es : List MapEntry} (h : Ents ek al es) (k : κ) : ∀ i, ∃ r, aV cl (ek k) es i = some r ∧ r.map (·.2) = C8 al k := by
 induction h with
 | nil => intro i; exact ⟨none, rfl, rfl⟩
 | @cons p l e es h1 h2 _ ih =>
  intro i
  simp only [aV, h1, K.eq, Option.bind_some, C8]
  by_cases hp : k = p.1
  ·rw [if_pos (by simp [hp]), if_pos hp]
   exact ⟨_, rfl, by simp [h2]⟩
  ·rw [if_neg (by simp [hp]), if_neg hp]
   exact ih (i + 1)
theorem abB [K : KeyE cl ek] {al : List (κ × Value)} {es : List MapEntry} (h : Ents ek al es) (k : κ) (v : Value) : ∀ i, match aV cl (ek k) es i with
 | some (some (j, _)) => i ≤ j ∧ Ents ek (C9 al k v) (es.modify (j - i) fun e => { e with key := ek k, val := v })
 | some none => ∀ born, Ents ek (C9 al k v) (es ++ [{ key := ek k, val := v, born := born }])
 | none => False := by
 induction h with
 | nil => intro i born; exact .cons rfl rfl .nil
 | @cons p l e es h1 h2 hh ih =>
  intro i
  simp only [aV, h1, K.eq, Option.bind_some, C9]
  by_cases hp : k = p.1
  ·rw [if_pos (show decide (k = p.1) = true by simp [hp]), if_pos hp]
   refine ⟨Nat.le_refl _, ?_⟩
   simp only [Nat.sub_self]
   exact .cons rfl rfl hh
  ·rw [if_neg (show ¬ decide (k = p.1) = true by simp [hp]), if_neg hp]
   have hi := ih (i + 1)
   cases hf : aV cl (ek k) es (i + 1) with
   | none => rw [hf] at hi; exact hi
   | some r =>
    rw [hf] at hi
    cases r with
    | none => intro born; exact .cons h1 h2 (hi born)
    | some r =>
     obtain ⟨j, v'⟩ := r
     simp only at hi ⊢
     refine ⟨by omega, ?_⟩
     rw [show j - i = (j - (i + 1)) + 1 from by omega]
     exact .cons h1 h2 hi.2
def Rb (ek : κ → Value) (b : Nat) (f : κ → Option Value) : SP := ex fun g : List (κ × Value) × List MapEntry × Nat => pu (Ents ek g.1 g.2.1 ∧ ∀ k, C8 g.1 k = f k) * blk b (.map g.2.1 g.2.2)
class Mp (P : SP) (b : Nat) {κ : Type} [DecidableEq κ] (ek : κ → Value) (f : outParam (κ → Option Value)) (R : outParam SP) : Prop where
 eq : P = Rb ek b f * R
instance (priority := high) Mp.refl {κ : Type} [DecidableEq κ] (b : Nat) (ek : κ → Value) (f : κ → Option Value) : Mp (Rb ek b f) b ek f emp := ⟨(gN _).symm⟩
instance Mp.left {κ : Type} [DecidableEq κ] (P Q R : SP) (b : Nat) (ek : κ → Value) (f : κ → Option Value) [h : Mp P b ek f R] : Mp (P * Q) b ek f (R * Q) := ⟨by rw [h.eq, ap]⟩
instance Mp.right {κ : Type} [DecidableEq κ] (P Q R : SP) (b : Nat) (ek : κ → Value) (f : κ → Option Value) [h : Mp Q b ek f R] : Mp (P * Q) b ek f (P * R) := ⟨by rw [h.eq, bQ]⟩
theorem MD {R : SP} {H : AH} {b : Nat} (ek : κ → Value) (h : ae (blk b (.map [] 0) * R) H) : ae (Rb ek b (fun _ => none) * R) H :=
 ae.ex.2 ⟨([], [], 0), by rw [ap]; exact ae.pu.2 ⟨⟨.nil, fun _ => rfl⟩, h⟩⟩
theorem ND {P R : SP} {H : AH} {b : Nat} {f : κ → Option Value} {zero : Value} {kk : Value → OV} {Q : Value → AH → Prop} [K : KeyE cl ek] (k : κ) (h : ae P H) [m : Mp P b ek f R]
 (hk : wp (kk ((f k).getD zero)) Q) : wp ((b7 cl zero (.map (some b)) (ek k) false H).bind kk) Q := by
 have h' : ae (Rb ek b f * R) H := by rw [← m.eq]; exact h
 obtain ⟨⟨al, es, c⟩, h'⟩ := ae.ex.1 h'
 rw [ap, ae.pu] at h'
 obtain ⟨⟨he, hf⟩, h'⟩ := h'
 dsimp only at he hf h'
 obtain ⟨r, h1, h2⟩ := ZU he k 0
 refine aa ?_ hk
 unfold b7
 rw [if_pos (K.ok k)]
 simp only [ir, h'.left.get, Option.bind_some, h1, Option.map_some]
 rw [← hf k, ← h2]
 cases r <;> rfl
theorem Wr {P R : SP} {H : AH} {b : Nat} {f : κ → Option Value} {kk : AH → OV} {Q : Value → AH → Prop} [K : KeyE cl ek] (k : κ) (v : Value) (h : ae P H) [m : Mp P b ek f R]
 (hk : ∀ H', ae (Rb ek b (fun x => if x = k then some v else f x) * R) H' → wp (kk H') Q) : wp ((dh cl (.map (some b)) (ek k) v H).bind kk) Q := by
 have h' : ae (Rb ek b f * R) H := by rw [← m.eq]; exact h
 obtain ⟨⟨al, es, c⟩, h'⟩ := ae.ex.1 h'
 rw [ap, ae.pu] at h'
 obtain ⟨⟨he, hf⟩, h'⟩ := h'
 dsimp only at he hf h'
 have hu := abB he k v 0
 unfold dh
 rw [if_pos (K.ok k)]
 simp only [h'.left.get]
 have fin : ∀ {es' : List MapEntry} {c' : Nat}, Ents ek (C9 al k v) es' → ae (Rb ek b (fun x => if x = k then some v else f x) * R) (H.set b (.map es' c')) := fun {es'} {c'} he' =>
  ae.ex.2 ⟨(C9 al k v, es', c'), by
   rw [ap]
   exact ae.pu.2 ⟨⟨he', fun x => by rw [UB, hf]⟩, h'.set _⟩⟩
 cases hf' : aV cl (ek k) es 0 with
 | none => rw [hf'] at hu; exact absurd hu id
 | some r =>
  rw [hf'] at hu
  cases r with
  | none =>
   simp only [Option.map_some, Option.bind_some]
   exact hk _ (fin (hu c))
  | some r =>
   obtain ⟨j, v'⟩ := r
   simp only [Option.map_some, Option.bind_some]
   exact hk _ (fin hu.2)
end
section
variable {cl : TCls} {w : Nat}
theorem Y7 : aj cl .shr (vu w) (vw 61) = some (vu (w / 2305843009213693952)) := by
 have := tk (cl := cl) (a := w) (k := .u64) (n := 61) (by omega)
 simpa using this
theorem abP : aj cl .shr (vu w) (vw 32) = some (vu (w / 4294967296)) := by
 have := tk (cl := cl) (a := w) (k := .u64) (n := 32) (by omega)
 simpa using this
theorem KQ (k : Nat) (hw : w < 18446744073709551616) (hk : 2 ^ k - 1 < 18446744073709551616) : aj cl .and (vu w) (.int .u64 ((2 ^ k - 1 : Nat) : Int)) = some (vu (w % 2 ^ k)) := by
 have := WU (cl := cl) hw hk
 rw [Nat.and_two_pow_sub_one_eq_mod] at this
 exact this
theorem aa4 (hw : w < 18446744073709551616) : aj cl .and (vu w) (vw 2305843009213693951) = some (vu (w % 2305843009213693952)) := by
 have := KQ (cl := cl) 61 hw (by omega)
 simpa using this
theorem aa3 (hw : w < 18446744073709551616) : aj cl .and (vu w) (vw 4294967295) = some (vu (w % 4294967296)) := by
 have := KQ (cl := cl) 32 hw (by omega)
 simpa using this
theorem M2 (n : Nat) (h : n ≠ 0) : aj cl .rem (vu w) (.int .u64 (n : Int)) = some (vu (w % n)) := g6 h
theorem Y4 (n : Nat) (h : n ≠ 0) (hw : w < 18446744073709551616) : aj cl .quo (vu w) (.int .u64 (n : Int)) = some (vu (w / n)) := Aj h hw
theorem YY (n : Nat) : aj cl .mul (vu w) (.int .u64 (n : Int)) = some (vu (w * n % 18446744073709551616)) := NV
theorem abF (h : w * 2305843009213693952 < 18446744073709551616) : aj cl .mul (vu w) (vw 2305843009213693952) = some (vu (w * 2305843009213693952)) := by
 have := YY (cl := cl) (w := w) 2305843009213693952
 rw [Nat.mod_eq_of_lt h] at this
 simpa using this
theorem abE : aj cl .mul (vu w) (vw 4294967296) = some (vu (w * 4294967296 % 18446744073709551616)) := by
 have := YY (cl := cl) (w := w) 4294967296
 simpa using this
theorem abL : aj cl .rem (vu w) (vw 2305843009213693952) = some (vu (w % 2305843009213693952)) := by
 have := M2 (cl := cl) (w := w) 2305843009213693952 (by omega)
 simpa using this
theorem abJ (hw : w < 18446744073709551616) : aj cl .quo (vu w) (vw 2305843009213693952) = some (vu (w / 2305843009213693952)) := by
 have := Y4 (cl := cl) (w := w) 2305843009213693952 (by omega) hw
 simpa using this
theorem abK : aj cl .rem (vu w) (vw 4294967296) = some (vu (w % 4294967296)) := by
 have := M2 (cl := cl) (w := w) 4294967296 (by omega)
 simpa using this
theorem abI (hw : w < 18446744073709551616) : aj cl .quo (vu w) (vw 4294967296) = some (vu (w / 4294967296)) := by
 have := Y4 (cl := cl) (w := w) 4294967296 (by omega) hw
 simpa using this
theorem fC {w : Nat} (hw : w < 9223372036854775808) : bz (some .i64) (vu w) = some (vi (w : Int)) := by
 simp only [bz]
 rw [lR (by omega) (by omega)]
theorem cU {n : Int} (h0 : 0 ≤ n) (h1 : n < 18446744073709551616) : bz (some .u64) (vi n) = some (vu n.toNat) := by
 simp only [bz]
 rw [jy h0 h1]
 show _ = some (Value.int .u64 ((n.toNat : Nat) : Int))
 rw [Int.toNat_of_nonneg h0]
end
theorem Y3 {cl : TCls} {a b : Nat} : aj cl .neq (vu a) (vu b) = some (vb (a != b)) := by
 rw [vG]
 congr 2
 rw [Bool.eq_iff_iff]
 simp
 omega
theorem Yx {cl : TCls} {a b : Nat} : aj cl .eql (vu a) (vu b) = some (vb (a == b)) := by
 rw [kg]
 congr 2
 rw [Bool.eq_iff_iff]
 simp
 omega
theorem Yv {cl : TCls} {a b : Nat} : aj cl .add (vu a) (vu b) = some (vu ((a + b) % 18446744073709551616)) := by
 simp only [aj, j7, if_true]
 rw [zD]
 simp
theorem RO (a b : bV) : aj (.flat 3) .eql (.agg #[vi a.1, vi a.2.1, vi a.2.2]) (.agg #[vi b.1, vi b.2.1, vi b.2.2]) = some (vb (a == b)) := by
 show (nb (.flat 3) (.agg #[vi a.1, vi a.2.1, vi a.2.2]) (.agg #[vi b.1, vi b.2.1, vi b.2.2])).map (fun b => Value.bool b) = _
 simp only [nb]
 rw [if_pos ⟨rfl, rfl⟩]
 simp only [bh, if_true, Option.map_some, Bool.and_true]
 rfl
theorem jh {cl : TCls} {a b : Int} (h0 : -9223372036854775808 ≤ a * b) (h1 : a * b < 9223372036854775808) : aj cl .mul (vi a) (vi b) = some (vi (a * b)) := by simp only [aj, j7, if_true, lR h0 h1]
section
variable {cl : TCls} {k : IntKind} {a b : Int}
theorem b4 (h : a < b) : aj cl .lss (.int k a) (.int k b) = some (vb true) := by rw [oQ, decide_eq_true h]
theorem bI (h : ¬ a < b) : aj cl .lss (.int k a) (.int k b) = some (vb false) := by rw [oQ, decide_eq_false h]
theorem Mz (h : a ≤ b) : aj cl .leq (.int k a) (.int k b) = some (vb true) := by rw [KR, decide_eq_true h]
theorem My (h : ¬ a ≤ b) : aj cl .leq (.int k a) (.int k b) = some (vb false) := by rw [KR, decide_eq_false h]
theorem nG (h : b < a) : aj cl .gtr (.int k a) (.int k b) = some (vb true) := by rw [BH, decide_eq_true h]
theorem gU (h : ¬ b < a) : aj cl .gtr (.int k a) (.int k b) = some (vb false) := by rw [BH, decide_eq_false h]
theorem uy (h : b ≤ a) : aj cl .geq (.int k a) (.int k b) = some (vb true) := by rw [vF, decide_eq_true h]
theorem pQ (h : ¬ b ≤ a) : aj cl .geq (.int k a) (.int k b) = some (vb false) := by rw [vF, decide_eq_false h]
theorem bo (h : a = b) : aj cl .eql (.int k a) (.int k b) = some (vb true) := by rw [kg, beq_iff_eq.2 h]
theorem aR (h : ¬ a = b) : aj cl .eql (.int k a) (.int k b) = some (vb false) := by rw [kg, beq_eq_false_iff_ne.2 h]
theorem Y0 (h : ¬ a = b) : aj cl .neq (.int k a) (.int k b) = some (vb true) := by rw [vG, bne_iff_ne.2 h]
theorem so (h : a = b) : aj cl .neq (.int k a) (.int k b) = some (vb false) := by
 rw [vG]
 simp [h]
end
theorem zT {c : Bool} {e : Option Value} {v : Value} (h : e = some v) : gB (vb c) c e = some v := by
 cases c <;> (rw [h]; rfl)
theorem YV {v : Value} : gV (vb true) true v = some v := rfl
theorem YQ {v : Value} : gV (vb false) false v = some v := rfl
theorem YU {v : Value} : gV (vb true) false v = some undef := rfl
theorem YR {v : Value} : gV (vb false) true v = some undef := rfl
theorem YP {e : Option Value} : gB (vb true) false e = some undef := rfl
theorem YO {e : Option Value} : gB (vb false) true e = some undef := rfl
section
variable {H : AH} {e : Option (Value × AH)} {k : Value × AH → OV} {Q : Value → AH → Prop} {x : Option Value} {kv : Value → OV}
theorem D9 (h : wp (e.bind k) Q) : wp ((gE (vb true) true H e).bind k) Q := h
theorem wq (h : wp (e.bind k) Q) : wp ((gE (vb false) false H e).bind k) Q := h
theorem NA (h : wp (k (undef, H)) Q) : wp ((gE (vb true) false H e).bind k) Q := h
theorem Nz (h : wp (k (undef, H)) Q) : wp ((gE (vb false) true H e).bind k) Q := h
theorem G3 (h : wp (x.bind kv) Q) : wp ((wa (yv (vb true)) true x (some undef)).bind kv) Q := h
theorem zA (h : wp (x.bind kv) Q) : wp ((wa (yv (vb false)) false x (some undef)).bind kv) Q := h
theorem G2 (h : wp (kv undef) Q) : wp ((wa (yv (vb true)) false x (some undef)).bind kv) Q := h
theorem G1 (h : wp (kv undef) Q) : wp ((wa (yv (vb false)) true x (some undef)).bind kv) Q := h
end
theorem FE (c : Bool) (e : Option Value) : gB (vb c) c e = e := by cases c <;> cases e <;> rfl
theorem CY {R : Type} (c : Bool) (k : Value → Option R) : ∀ (p : List Stp) (x : Value), zU (vb c) c p x k = ad p x k := by
 intro p
 induction p with
 | nil => intro x; rfl
 | cons s p ih => intro x; cases s <;> simp only [zU, ad, FE, ih]
theorem Ms {R : Type} (c : Bool) (k : Value → Option R) (hk : ∀ x, k x = k undef) : ∀ (p : List Stp) (x : Value), zU (vb c) (!c) p x k = k undef := by
 intro p
 induction p with
 | nil => intro x; exact hk x
 | cons s p ih => intro x; cases c <;> cases s <;> exact ih undef
section
variable {H : AH} {p : List Stp} {x : Value} {k : Value → OV} {Q : Value → AH → Prop} {n : Nat}
theorem Un {R : Type} (c : Bool) (k : Value → Option R) : fp (vb c) c p x H k = ld p x H k := by simp only [fp, ld, CY, FE]
theorem Mt {R : Type} (c : Bool) (k : Value → Option R) : kU (vb c) c n p x H k = ldN n p x H k := by simp only [kU, ldN, CY, FE]
theorem Mv {R : Type} (c : Bool) (k : Value → Option R) : fp (vb c) (!c) p x H k = k undef := by
 unfold fp
 rw [Ms c _ (fun x => by cases c <;> rfl)]
 cases c <;> rfl
theorem FG {R : Type} (c : Bool) (k : Value → Option R) : kU (vb c) (!c) n p x H k = k undef := by
 unfold kU
 rw [Ms c _ (fun x => by cases c <;> rfl)]
 cases c <;> rfl
theorem Wp (h : wp (ld p x H k) Q) : wp (fp (vb true) true p x H k) Q := by rw [Un]; exact h
theorem Wm (h : wp (ld p x H k) Q) : wp (fp (vb false) false p x H k) Q := by rw [Un]; exact h
theorem Wo (h : wp (k undef) Q) : wp (fp (vb true) false p x H k) Q := by rw [show (false : Bool) = !true from rfl, Mv]; exact h
theorem Wn (h : wp (k undef) Q) : wp (fp (vb false) true p x H k) Q := by rw [show fp (vb false) true p x H k = fp (vb false) (!false) p x H k from rfl, Mv]; exact h
theorem Q1 (h : wp (ldN n p x H k) Q) : wp (kU (vb true) true n p x H k) Q := by rw [Mt]; exact h
theorem QX (h : wp (ldN n p x H k) Q) : wp (kU (vb false) false n p x H k) Q := by rw [Mt]; exact h
theorem QZ (h : wp (k undef) Q) : wp (kU (vb true) false n p x H k) Q := by rw [show kU (vb true) false n p x H k = kU (vb true) (!true) n p x H k from rfl, FG]; exact h
theorem QY (h : wp (k undef) Q) : wp (kU (vb false) true n p x H k) Q := by rw [show kU (vb false) true n p x H k = kU (vb false) (!false) n p x H k from rfl, FG]; exact h
theorem kP {e : Option Value} (h : wp (e.bind k) Q) : wp ((gB (vb true) true e).bind k) Q := by rw [FE]; exact h
theorem mA {e : Option Value} (h : wp (e.bind k) Q) : wp ((gB (vb false) false e).bind k) Q := by rw [FE]; exact h
theorem Wl {a b : OV} (h : wp a Q) : wp (ax (vb true) a b) Q := h
theorem zz {a b : OV} (h : wp b Q) : wp (ax (vb false) a b) Q := h
end
theorem acE {b : Bool} {v : Value} : gV undef b v = some undef := rfl
theorem acD {b : Bool} {e : Option Value} : gB undef b e = some undef := rfl
theorem aa9 {R : Type} (b : Bool) (k : Value → Option R) (hk : ∀ x, k x = k undef) : ∀ (p : List Stp) (x : Value), zU undef b p x k = k undef := by
 intro p
 induction p with
 | nil => intro x; exact hk x
 | cons s p ih => intro x; cases s <;> exact ih undef
theorem abA {R : Type} {b : Bool} {p : List Stp} {x : Value} {H : AH} (k : Value → Option R) : fp undef b p x H k = k undef := by
 unfold fp
 rw [aa9 b _ (fun x => rfl)]
 rfl
theorem Ye {b : Bool} {p : List Stp} {x : Value} {H : AH} {k : Value → OV} {Q : Value → AH → Prop} (h : wp (k undef) Q) : wp (fp undef b p x H k) Q := by rw [abA]; exact h
class Gd (x : OV) (y : outParam OV) : Prop where
 go : ∀ {Q : Value → AH → Prop}, wp y Q → wp x Q
theorem gg {x y : OV} {Q : Value → AH → Prop} [g : Gd x y] (h : wp y Q) : wp x Q := g.go h
section
variable {a b v : Value} {k : Value → OV} {H : AH} {e : Option (Value × AH)} {e1 : Option Value} {ke : Value × AH → OV} {p : List Stp} {x : Value} {n : Nat} {c : Bool} {o1 o2 : OV}
instance : Gd ((aS (vb true) a b).bind k) (k a) := ⟨aa (Vc _ _)⟩
instance : Gd ((aS (vb false) a b).bind k) (k b) := ⟨aa (Dh _ _)⟩
instance : Gd ((gV (vb true) true v).bind k) (k v) := ⟨aa YV⟩
instance : Gd ((gV (vb false) false v).bind k) (k v) := ⟨aa YQ⟩
instance : Gd ((gV (vb true) false v).bind k) (k undef) := ⟨aa YU⟩
instance : Gd ((gV (vb false) true v).bind k) (k undef) := ⟨aa YR⟩
instance : Gd ((gB (vb true) false e1).bind k) (k undef) := ⟨aa YP⟩
instance : Gd ((gB (vb false) true e1).bind k) (k undef) := ⟨aa YO⟩
instance : Gd ((gE (vb true) false H e).bind ke) (ke (undef, H)) := ⟨NA⟩
instance : Gd ((gE (vb false) true H e).bind ke) (ke (undef, H)) := ⟨Nz⟩
instance : Gd ((gE (vb true) true H e).bind ke) (e.bind ke) := ⟨D9⟩
instance : Gd ((gE (vb false) false H e).bind ke) (e.bind ke) := ⟨wq⟩
instance : Gd ((wa (yv (vb true)) false e1 (some undef)).bind k) (k undef) := ⟨G2⟩
instance : Gd ((wa (yv (vb false)) true e1 (some undef)).bind k) (k undef) := ⟨G1⟩
instance : Gd ((wa (yv (vb true)) true e1 (some undef)).bind k) (e1.bind k) := ⟨G3⟩
instance : Gd ((wa (yv (vb false)) false e1 (some undef)).bind k) (e1.bind k) := ⟨zA⟩
instance : Gd (fp (vb true) true p x H k) (ld p x H k) := ⟨Wp⟩
instance : Gd (fp (vb false) false p x H k) (ld p x H k) := ⟨Wm⟩
instance : Gd (fp (vb true) false p x H k) (k undef) := ⟨Wo⟩
instance : Gd (fp (vb false) true p x H k) (k undef) := ⟨Wn⟩
instance : Gd (kU (vb true) true n p x H k) (ldN n p x H k) := ⟨Q1⟩
instance : Gd (kU (vb false) false n p x H k) (ldN n p x H k) := ⟨QX⟩
instance : Gd (kU (vb true) false n p x H k) (k undef) := ⟨QZ⟩
instance : Gd (kU (vb false) true n p x H k) (k undef) := ⟨QY⟩
instance : Gd ((gB (vb true) true e1).bind k) (e1.bind k) := ⟨kP⟩
instance : Gd ((gB (vb false) false e1).bind k) (e1.bind k) := ⟨mA⟩
instance : Gd ((pi .not (vb c)).bind k) (k (vb (!c))) := ⟨aa ug⟩
instance : Gd (ax (vb true) o1 o2) o1 := ⟨Wl⟩
instance : Gd (ax (vb false) o1 o2) o2 := ⟨zz⟩
instance : Gd ((gV undef c v).bind k) (k undef) := ⟨aa acE⟩
instance : Gd ((gB undef c e1).bind k) (k undef) := ⟨aa acD⟩
instance : Gd (fp undef c p x H k) (k undef) := ⟨Ye⟩
class Gh (x : OV) (y : outParam OV) : Prop where
 go : ∀ {Q : Value → AH → Prop}, wp y Q → wp x Q
theorem gh {x y : OV} {Q : Value → AH → Prop} [g : Gh x y] (h : wp y Q) : wp x Q := g.go h
instance : Gh ((aS (vb true) a b).bind k) (k a) := ⟨aa (Vc _ _)⟩
instance : Gh ((aS (vb false) a b).bind k) (k b) := ⟨aa (Dh _ _)⟩
instance : Gh ((gV (vb true) true v).bind k) (k v) := ⟨aa YV⟩
instance : Gh ((gV (vb false) false v).bind k) (k v) := ⟨aa YQ⟩
instance : Gh ((gV (vb true) false v).bind k) (k undef) := ⟨aa YU⟩
instance : Gh ((gV (vb false) true v).bind k) (k undef) := ⟨aa YR⟩
instance : Gh ((gB (vb true) false e1).bind k) (k undef) := ⟨aa YP⟩
instance : Gh ((gB (vb false) true e1).bind k) (k undef) := ⟨aa YO⟩
instance : Gh ((gE (vb true) false H e).bind ke) (ke (undef, H)) := ⟨NA⟩
instance : Gh ((gE (vb false) true H e).bind ke) (ke (undef, H)) := ⟨Nz⟩
instance : Gh ((gE (vb true) true H e).bind ke) (e.bind ke) := ⟨D9⟩
instance : Gh ((gE (vb false) false H e).bind ke) (e.bind ke) := ⟨wq⟩
instance : Gh ((wa (yv (vb true)) false e1 (some undef)).bind k) (k undef) := ⟨G2⟩
instance : Gh ((wa (yv (vb false)) true e1 (some undef)).bind k) (k undef) := ⟨G1⟩
instance : Gh ((wa (yv (vb true)) true e1 (some undef)).bind k) (e1.bind k) := ⟨G3⟩
instance : Gh ((wa (yv (vb false)) false e1 (some undef)).bind k) (e1.bind k) := ⟨zA⟩
end
structure Mu where
 V : bV → Nat
 E : List Ev
 N : Nat
abbrev Mu.log (μ : Mu) (who kind : Int) (at' : bV) : Mu := { μ with E := μ.E ++ [⟨who, kind, at'⟩], N := μ.N + 1 }
abbrev Mu.put (μ : Mu) (at' : bV) (v : Nat) : Mu := { μ with V := fun l => if l = at' then v else μ.V l }
def dQ (al : List (bV × Nat)) (l : bV) : Nat := ((al.find? fun p => p.1 == l).map (·.2)).getD 0
def aa6 (p : bV × Nat) (e : MapEntry) : Prop := e.key = dl p.1 ∧ e.val = .agg #[vu p.2]
inductive EntsOf : List (bV × Nat) → List MapEntry → Prop
 | nil : EntsOf [] []
 | cons {p : bV × Nat} {l : List (bV × Nat)} {e : MapEntry} {es : List MapEntry} (h : aa6 p e) (k : EntsOf l es) : EntsOf (p :: l) (e :: es)
theorem AQ (a b : bV) : iL (.flat 3) (dl a) (dl b) = some (a == b) := by
 simp only [iL, dl]
 rw [if_pos ⟨rfl, rfl⟩]
 simp only [bh, if_true, Option.map_some, Bool.and_true]
 rfl
theorem Pi {al : List (bV × Nat)} {es : List MapEntry} (h : EntsOf al es) (l : bV) : ∀ i, ∃ r, aV (.flat 3) (dl l) es i = some r ∧ (match r with
 | some (j, v) => v = .agg #[vu (dQ al l)] ∧ i ≤ j ∧ (∃ p, al[j - i]? = some p ∧ p.1 = l) ∧ ∀ q, q < j - i → ∀ p, al[q]? = some p → p.1 ≠ l
 | none => dQ al l = 0 ∧ ∀ p ∈ al, p.1 ≠ l) := by
 induction h with
 | nil => intro i; exact ⟨none, rfl, rfl, by simp⟩
 | @cons p al e es h k ih =>
  intro i
  simp only [aV]
  rw [h.1, AQ]
  simp only [Option.bind_some]
  by_cases hp : p.1 = l
  ·have e1 : (l == p.1) = true := by simp [hp]
   rw [if_pos e1]
   refine ⟨_, rfl, ?_, Nat.le_refl _, ⟨p, by simp, hp⟩, fun q hq => by omega⟩
   rw [h.2]
   simp [dQ, hp]
  ·have e1 : ¬ ((l == p.1) = true) := by simp; exact fun h => hp h.symm
   rw [if_neg e1]
   obtain ⟨r, h1, h2⟩ := ih (i + 1)
   have hg : dQ (p :: al) l = dQ al l := by simp [dQ, hp]
   refine ⟨r, h1, ?_⟩
   cases r with
   | none =>
    simp only at h2 ⊢
    rw [hg]
    exact ⟨h2.1, fun q hq => by
     rcases List.mem_cons.1 hq with rfl | hq
     ·exact hp
     ·exact h2.2 q hq⟩
   | some r =>
    obtain ⟨j, v⟩ := r
    simp only at h2 ⊢
    rw [hg]
    obtain ⟨a1, a2, ⟨p', a3, a4⟩, a5⟩ := h2
    refine ⟨a1, by omega, ⟨p', ?_, a4⟩, fun q hq p'' hp'' => ?_⟩
    ·rw [show j - i = (j - (i + 1)) + 1 from by omega]; exact a3
    ·cases q with
     | zero => simp at hp''; rw [← hp'']; exact hp
     | succ q => exact a5 q (by omega) p'' (by simpa using hp'')
def kf : List (bV × Nat) → bV → Nat → List (bV × Nat)
 | [], l, v => [(l, v)]
 | p :: al, l, v => if p.1 = l then (l, v) :: al else p :: kf al l v
theorem dk (p : bV × Nat) (al : List (bV × Nat)) (l : bV) : dQ (p :: al) l = if p.1 = l then p.2 else dQ al l := by
 unfold dQ
 by_cases h : p.1 = l
 ·simp [h]
 ·simp [h]
theorem Ag (l : bV) (v : Nat) (x : bV) : ∀ al, dQ (kf al l v) x = if x = l then v else dQ al x := by
 intro al
 induction al with
 | nil =>
  simp only [kf, dk]
  by_cases h : l = x
  ·simp [h]
  ·have : ¬ x = l := fun e => h e.symm
   simp [h, this]
 | cons p al ih =>
  simp only [kf]
  by_cases hp : p.1 = l
  ·rw [if_pos hp, dk, dk]
   by_cases h : l = x
   ·simp [h]
   ·have h2 : ¬ x = l := fun e => h e.symm
    simp [h, h2, hp]
  ·rw [if_neg hp, dk, dk, ih]
   by_cases h : p.1 = x
   ·have h2 : ¬ x = l := fun e => hp (h.trans e)
    simp [h, h2]
   ·simp [h]
theorem Wj {al : List (bV × Nat)} {es : List MapEntry} (h : EntsOf al es) (l : bV) (v : Nat) : ∀ i, match aV (.flat 3) (dl l) es i with
 | some (some (j, _)) => i ≤ j ∧ EntsOf (kf al l v) (es.modify (j - i) fun e => { e with key := dl l, val := .agg #[vu v] })
 | some none => ∀ born, EntsOf (kf al l v) (es ++ [{ key := dl l, val := .agg #[vu v], born := born }])
 | none => False := by
 induction h with
 | nil => intro i born; exact .cons ⟨rfl, rfl⟩ .nil
 | @cons p al e es h k ih =>
  intro i
  simp only [aV]
  rw [h.1, AQ]
  simp only [Option.bind_some]
  by_cases hp : p.1 = l
  ·have e1 : (l == p.1) = true := by simp [hp]
   rw [if_pos e1]
   simp only [kf, if_pos hp]
   refine ⟨Nat.le_refl _, ?_⟩
   simp only [Nat.sub_self]
   exact .cons ⟨rfl, rfl⟩ k
  ·have e1 : ¬ ((l == p.1) = true) := by simp; exact fun h => hp h.symm
   rw [if_neg e1]
   have hi := ih (i + 1)
   simp only [kf, if_neg hp]
   cases hf : aV (.flat 3) (dl l) es (i + 1) with
   | none => rw [hf] at hi; exact hi
   | some r =>
    rw [hf] at hi
    cases r with
    | none => intro born; exact .cons h (hi born)
    | some r =>
     obtain ⟨j, v'⟩ := r
     simp only at hi ⊢
     refine ⟨by omega, ?_⟩
     rw [show j - i = (j - (i + 1)) + 1 from by omega]
     exact .cons h hi.2
section
variable {P P' R : SP} {H : AH} {c ck : Nat} {es : List MapEntry} {al : List (bV × Nat)} {Q : Value → AH → Prop}
theorem aaR {k : Value → OV} {at' : bV} (ha : EntsOf al es) (h : ae P H) [i : Hs P c (.map es ck)] (hk : wp (k (.agg #[vu (dQ al at')])) Q) : wp ((b7 (.flat 3) (.agg #[vw 0]) (.map (some c)) (dl at') false H).bind k) Q := by
 have hg := i.get h
 obtain ⟨r, h1, h2⟩ := Pi ha at' 0
 refine aa ?_ hk
 unfold b7
 rw [if_pos (show gf (.flat 3) (dl at') = true from rfl)]
 simp only [ir, hg, Option.bind_some, h1, Option.map_some]
 cases r with
 | none => simp only at h2 ⊢; rw [h2.1]; rfl
 | some r => simp only at h2 ⊢; rw [h2.1]; rfl
theorem abW {k : AH → OV} {at' : bV} {v : Nat} (ha : EntsOf al es) (h : ae P H) [i : Hs P c (.map es ck)] (hk : ∀ es' ck' H', EntsOf (kf al at' v) es' → (∀ P', Up P c (.map es' ck') P' → ae P' H') → wp (k H') Q) :
 wp ((dh (.flat 3) (.map (some c)) (dl at') (.agg #[vu v]) H).bind k) Q := by
 have hg := i.get h
 have hu := Wj ha at' v 0
 unfold dh
 rw [if_pos (show gf (.flat 3) (dl at') = true from rfl)]
 simp only [hg]
 cases hf : aV (.flat 3) (dl at') es 0 with
 | none => rw [hf] at hu; exact absurd hu id
 | some r =>
  rw [hf] at hu
  cases r with
  | none =>
   simp only [Option.map_some, Option.bind_some]
   exact hk _ _ _ (hu ck) fun P' u => u.set h
  | some r =>
   obtain ⟨j, v'⟩ := r
   simp only [Option.map_some, Option.bind_some]
   exact hk _ _ _ hu.2 fun P' u => u.set h
end
def bj (m : Nat) (μ : Mu) : SP := ex fun g : Nat × Value × List (bV × Nat) × List MapEntry × Nat =>
 pu (EntsOf g.2.2.1 g.2.2.2.1 ∧ (∀ l, dQ g.2.2.1 l = μ.V l) ∧ μ.E.length ≤ μ.N) * (blk m (.cells false [.map (some g.1), g.2.1]) * (blk g.1 (.map g.2.2.2.1 g.2.2.2.2) * sl 5 g.2.1 μ.E.length (lV μ.E)))
theorem lG (m : Nat) (μ : Mu) (who kind : Int) (at' : bV) (hE : μ.N < 1099511627776) : Sp cA [vp m, vi who, vi kind, dl at'] (bj m μ) (fun _ : Unit => .tuple #[]) (fun _ => bj m (μ.log who kind at')) := by
 refine av fun R H h => ?_
 obtain ⟨⟨c, l, al, es, ck⟩, h⟩ := ae.ex.1 h
 rw [ap, ae.pu] at h
 obtain ⟨hp, h⟩ := h
 dsimp only at h hp
 refine aw (fun r => vd _ _ _ _ H) ?_
 refine aO (cs := [vi at'.1, vi at'.2.1, vi at'.2.2]) h fun b0 H1 h1 => ?_
 refine am h1 ac rfl ?_
 refine aM h1 ?_
 refine G0 (cs := [vi who, vi kind, vi at'.1, vi at'.2.1, vi at'.2.2]) rfl ?_
 refine NC (cs := [vi who, vi kind, vi at'.1, vi at'.2.1, vi at'.2.2]) h1 rfl fun b1 H2 h2 => ?_
 have hl := hp.2.2
 refine Zd h2 rfl (by omega) (by omega) rfl (by unfold cC; omega) fun a' c' H3 h3 => ?_
 refine aL h3 ac rfl rfl fun H4 h4 => ?_
 refine aq ⟨(), rfl, ?_⟩
 refine ae.ex.2 ⟨(c, .slice a' (μ.E.length + 1) c', al, es, ck), ?_⟩
 rw [ap, ae.pu]
 refine ⟨⟨hp.1, hp.2.1, by simp; exact hp.2.2⟩, ?_⟩
 have e1 : (μ.log who kind at').E.length = μ.E.length + 1 := by simp [Mu.log]
 have e2 : lV (μ.log who kind at').E = lV μ.E ++ [vi who, vi kind, vi at'.1, vi at'.2.1, vi at'.2.2] := by rw [Mu.log, BT]; rfl
 rw [e1, e2]
 exact h4.to
theorem sg (m : Nat) (μ : Mu) (at' : bV) : Sp dz [vp m, dl at'] (bj m μ) (fun _ : Unit => vu (μ.V at')) (fun _ => bj m μ) := by
 refine av fun R H h => ?_
 have h0 := h
 obtain ⟨⟨c, l, al, es, ck⟩, h⟩ := ae.ex.1 h
 rw [ap, ae.pu] at h
 obtain ⟨hp, h⟩ := h
 dsimp only at h hp
 refine aw (fun r => u7 _ _ H) ?_
 refine aO (cs := [vi at'.1, vi at'.2.1, vi at'.2.2]) h fun b0 H1 h1 => ?_
 refine am h1 ac rfl ?_
 refine aM h1 ?_
 refine aaR (at' := at') hp.1 h1 ?_
 refine aa (v := vu (dQ al at')) rfl ?_
 refine aq ⟨(), by rw [hp.2.1], ?_⟩
 refine ae.ex.2 ⟨(c, l, al, es, ck), ?_⟩
 rw [ap, ae.pu]
 exact ⟨hp, h1.to⟩
theorem FQ {m : Nat} {μ : Mu} {at' : bV} {v : Nat} {R P : SP} {H : AH} {c : Nat} {l : Value} {al : List (bV × Nat)} {es : List MapEntry} {k : AH → OV} {Q : Value → AH → Prop} {ck : Nat}
 (hp : EntsOf al es ∧ (∀ l, dQ al l = μ.V l) ∧ μ.E.length ≤ μ.N) (h : ae P H) [f : Fr P (blk m (.cells false [.map (some c), l]) * (blk c (.map es ck) * sl 5 l μ.E.length (lV μ.E))) R] [i : Hs P c (.map es ck)]
 (hk : ∀ H', ae (bj m (μ.put at' v) * R) H' → wp (k H') Q) : wp ((dh (.flat 3) (.map (some c)) (dl at') (.agg #[vu v]) H).bind k) Q := by
 have h' := ae.fr (f := f) h
 refine abW hp.1 h' fun es' ck' H' he hh => hk H' ?_
 have h2 := hh _ inferInstance
 refine ae.ex.2 ⟨(c, l, kf al at' v, es', ck'), ?_⟩
 rw [ap, ae.pu]
 refine ⟨⟨he, fun x => ?_, hp.2.2⟩, h2.to⟩
 dsimp only
 rw [Ag, hp.2.1]
theorem PA (m : Nat) (μ : Mu) (who : Int) (at' : bV) (v : Nat) (hE : μ.N < 1099511627776) : Sp cY [vp m, vi who, dl at', vu v] (bj m μ) (fun _ : Unit => .tuple #[]) (fun _ => bj m ((μ.log who 2 at').put at' v)) := by
 refine av fun R H h => ?_
 refine aw (fun r => tI _ _ _ _ H) ?_
 refine aO (cs := [vi at'.1, vi at'.2.1, vi at'.2.2]) h fun b0 H1 h1 => ?_
 refine aM h1 ?_
 refine af h1 (lG m μ who 2 at' hE) fun _ H2 h2 => ?_
 obtain ⟨⟨c, l, al, es, ck⟩, h2⟩ := ae.ex.1 h2
 rw [ap, ae.pu] at h2
 obtain ⟨hp, h2⟩ := h2
 dsimp only at h2 hp
 refine am h2 ac rfl ?_
 refine aM h2 ?_
 refine G0 (cs := [vu v]) rfl ?_
 refine FQ (m := m) (l := l) (μ := μ.log who 2 at') (at' := at') (v := v) hp h2 fun H3 h3 => ?_
 exact aq ⟨(), rfl, h3.to⟩
theorem FR (m : Nat) (μ : Mu) (who : Int) (at' : bV) (v : Nat) (hE : μ.N < 1099511627776) : Sp gv [vp m, vi who, dl at', vu v] (bj m μ) (fun _ : Unit => vu (μ.V at')) (fun _ => bj m ((μ.log who 3 at').put at' v)) := by
 refine av fun R H h => ?_
 refine aw (fun r => ve _ _ _ _ H) ?_
 refine aO (cs := [vi at'.1, vi at'.2.1, vi at'.2.2]) h fun b0 H1 h1 => ?_
 refine aM h1 ?_
 refine af h1 (sg m μ at') fun _ H2 h2 => ?_
 refine aM h2 ?_
 refine af h2 (lG m μ who 3 at' hE) fun _ H3 h3 => ?_
 obtain ⟨⟨c, l, al, es, ck⟩, h3⟩ := ae.ex.1 h3
 rw [ap, ae.pu] at h3
 obtain ⟨hp, h3⟩ := h3
 dsimp only at h3 hp
 refine am h3 ac rfl ?_
 refine aM h3 ?_
 refine G0 (cs := [vu v]) rfl ?_
 refine FQ (m := m) (l := l) (μ := μ.log who 3 at') (at' := at') (v := v) hp h3 fun H4 h4 => ?_
 exact aq ⟨(), rfl, h4.to⟩
theorem UI (m : Nat) (μ : Mu) (who : Int) (at' : bV) (hE : μ.N < 1099511627776) : Sp cz [vp m, vi who, dl at'] (bj m μ) (fun _ : Unit => vu (μ.V at')) (fun _ => bj m (μ.log who 1 at')) := by
 refine av fun R H h => ?_
 refine aw (fun r => u6 _ _ _ H) ?_
 refine aO (cs := [vi at'.1, vi at'.2.1, vi at'.2.2]) h fun b0 H1 h1 => ?_
 refine aM h1 ?_
 refine af h1 (lG m μ who 1 at' hE) fun _ H2 h2 => ?_
 refine aM h2 ?_
 refine af h2 (sg m (μ.log who 1 at') at') fun _ H3 h3 => ?_
 exact aq ⟨(), rfl, h3.to⟩
abbrev Mu.swap (μ : Mu) (who : Int) (at' : bV) (was now : Nat) : Mu := if μ.V at' = was then (μ.log who 3 at').put at' now else μ.log who 4 at'
theorem UL (m : Nat) (μ : Mu) (who : Int) (at' : bV) (was now : Nat) (hE : μ.N < 1099511627776) :
 Sp dA [vp m, vi who, dl at', vu was, vu now] (bj m μ) (fun _ : Unit => vb (decide (μ.V at' = was))) (fun _ => bj m (μ.swap who at' was now)) := by
 refine av fun R H h => ?_
 refine aw (fun r => vc _ _ _ _ _ H) ?_
 refine aO (cs := [vi at'.1, vi at'.2.1, vi at'.2.2]) h fun b0 H1 h1 => ?_
 refine aM h1 ?_
 refine af h1 (sg m μ at') fun _ H2 h2 => ?_
 refine aa Y3 ?_
 unfold Mu.swap
 refine ca (fun hc => ?_) (fun hc => ?_)
 ·have hc : ¬ μ.V at' = was := by simpa using hc
  rw [if_neg hc, decide_eq_false hc]
  refine aM h2 ?_
  refine af h2 (lG m μ who 4 at' hE) fun _ H3 h3 => ?_
  exact aq ⟨(), rfl, h3.to⟩
 ·have hc : μ.V at' = was := by simpa using hc
  rw [if_pos hc, decide_eq_true hc]
  refine aM h2 ?_
  refine af h2 (FR m μ who at' now hE) fun _ H3 h3 => ?_
  exact aq ⟨(), rfl, h3.to⟩
theorem XP (m : Nat) (μ : Mu) (who : Int) (at' : bV) (n : Nat) (hE : μ.N < 1099511627776) :
 Sp dY [vp m, vi who, dl at', vu n] (bj m μ) (fun _ : Unit => vu (μ.V at')) (fun _ => bj m ((μ.log who 3 at').put at' ((μ.V at' + n) % 18446744073709551616))) := by
 refine av fun R H h => ?_
 refine aw (fun r => yy _ _ _ _ H) ?_
 repeat (first | refine aH ‹_› fun _ _ _ => ?_ | refine aO ‹_› fun _ _ _ => ?_ | refine bR ‹_› fun _ _ _ => ?_ | refine aM ‹_› ?_ | refine am ‹_› ac rfl ?_ | refine am ‹_› ak rfl ?_ | refine a7 ‹_› ac ?_ | refine a7 ‹_› ak ?_ | refine aJ ac ?_ | refine aJ ak ?_ | refine aE ‹_› rfl ?_ | refine aL ‹_› ac rfl rfl fun _ _ => ?_ | refine aL ‹_› ak rfl rfl fun _ _ => ?_ | refine bZ ‹_› rfl rfl fun _ _ => ?_ | refine dZ ?_ | refine j8 ‹_› fun _ _ _ => ?_ | refine aT ?_ | refine aD ‹_› ‹_› rfl ?_ | refine bn ‹_› ‹_› rfl ?_ | refine cm ?_)
 refine af (by assumption) (sg m μ at') fun _ _ _ => ?_
 repeat (first | refine aH ‹_› fun _ _ _ => ?_ | refine aO ‹_› fun _ _ _ => ?_ | refine bR ‹_› fun _ _ _ => ?_ | refine aM ‹_› ?_ | refine am ‹_› ac rfl ?_ | refine am ‹_› ak rfl ?_ | refine a7 ‹_› ac ?_ | refine a7 ‹_› ak ?_ | refine aJ ac ?_ | refine aJ ak ?_ | refine aE ‹_› rfl ?_ | refine aL ‹_› ac rfl rfl fun _ _ => ?_ | refine aL ‹_› ak rfl rfl fun _ _ => ?_ | refine bZ ‹_› rfl rfl fun _ _ => ?_ | refine dZ ?_ | refine j8 ‹_› fun _ _ _ => ?_ | refine aT ?_ | refine aD ‹_› ‹_› rfl ?_ | refine bn ‹_› ‹_› rfl ?_ | refine cm ?_)
 refine aa (Yv) ?_
 refine af (by assumption) (FR m μ who at' _ hE) fun _ _ _ => ?_
 exact aq ⟨(), rfl, ae.to (by assumption)⟩
theorem UK (m : Nat) (μ : Mu) (who : Int) (at' : bV) (hE : μ.N < 1099511627776) :
 Sp jT [vp m, vi who, dl at'] (bj m μ) (fun _ : Unit => .tuple #[]) (fun _ => bj m (μ.log who 5 at')) := by
 refine av fun R H h => ?_
 refine aw (fun r => u9 _ _ _ H) ?_
 repeat (first | refine aH ‹_› fun _ _ _ => ?_ | refine aO ‹_› fun _ _ _ => ?_ | refine bR ‹_› fun _ _ _ => ?_ | refine aM ‹_› ?_ | refine am ‹_› ac rfl ?_ | refine am ‹_› ak rfl ?_ | refine a7 ‹_› ac ?_ | refine a7 ‹_› ak ?_ | refine aJ ac ?_ | refine aJ ak ?_ | refine aE ‹_› rfl ?_ | refine aL ‹_› ac rfl rfl fun _ _ => ?_ | refine aL ‹_› ak rfl rfl fun _ _ => ?_ | refine bZ ‹_› rfl rfl fun _ _ => ?_ | refine dZ ?_ | refine j8 ‹_› fun _ _ _ => ?_ | refine aT ?_ | refine aD ‹_› ‹_› rfl ?_ | refine bn ‹_› ‹_› rfl ?_ | refine cm ?_)
 refine af (by assumption) (lG m μ who 5 at' hE) fun _ _ _ => ?_
 exact aq ⟨(), rfl, ae.to (by assumption)⟩
theorem tK (m : Nat) (μ : Mu) (who : Int) (at' : bV) (hE : μ.N < 1099511627776) :
 Sp dU [vp m, vi who, dl at'] (bj m μ) (fun _ : Unit => .tuple #[]) (fun _ => bj m (μ.log who 6 at')) := by
 refine av fun R H h => ?_
 refine aw (fun r => tJ _ _ _ H) ?_
 repeat (first | refine aH ‹_› fun _ _ _ => ?_ | refine aO ‹_› fun _ _ _ => ?_ | refine bR ‹_› fun _ _ _ => ?_ | refine aM ‹_› ?_ | refine am ‹_› ac rfl ?_ | refine am ‹_› ak rfl ?_ | refine a7 ‹_› ac ?_ | refine a7 ‹_› ak ?_ | refine aJ ac ?_ | refine aJ ak ?_ | refine aE ‹_› rfl ?_ | refine aL ‹_› ac rfl rfl fun _ _ => ?_ | refine aL ‹_› ak rfl rfl fun _ _ => ?_ | refine bZ ‹_› rfl rfl fun _ _ => ?_ | refine dZ ?_ | refine j8 ‹_› fun _ _ _ => ?_ | refine aT ?_ | refine aD ‹_› ‹_› rfl ?_ | refine bn ‹_› ‹_› rfl ?_ | refine cm ?_)
 refine af (by assumption) (lG m μ who 6 at' hE) fun _ _ _ => ?_
 exact aq ⟨(), rfl, ae.to (by assumption)⟩
theorem Sp.imp {α : Type} {f : Nat} {args : List Value} {P : SP} {v : α → Value} {Q Q' : α → SP} (s : Sp f args P v Q) (h : ∀ x R H, ae (Q x * R) H → ae (Q' x * R) H) : Sp f args P v Q' := by
 intro R H hh
 obtain ⟨x, H', e, hq⟩ := s R H hh
 exact ⟨x, H', e, h x R H' hq⟩
theorem jb {m : Nat} {V : bV → Nat} {E : List Ev} {N N' : Nat} {R : SP} {H : AH} (hN : N ≤ N') (h : ae (bj m ⟨V, E, N⟩ * R) H) : ae (bj m ⟨V, E, N'⟩ * R) H := by
 obtain ⟨g, h⟩ := ae.ex.1 h
 rw [ap, ae.pu] at h
 refine ae.ex.2 ⟨g, ?_⟩
 rw [ap, ae.pu]
 exact ⟨⟨h.1.1, h.1.2.1, Nat.le_trans h.1.2.2 hN⟩, h.2⟩
abbrev Mu.acc (μ : Mu) (who kind : Int) (at' : bV) : Mu := { V := μ.V, E := μ.E ++ [⟨who, kind, at'⟩], N := μ.N + 2 }
abbrev Mu.swp (μ : Mu) (who : Int) (at' : bV) (was now : Nat) : Mu := { V := (μ.swap who at' was now).V, E := (μ.swap who at' was now).E, N := μ.N + 2 }
theorem yC (m : Nat) (μ : Mu) (who : Int) (at' : bV) (hE : μ.N < 1099511627776) : Sp cz [vp m, vi who, dl at'] (bj m μ) (fun _ : Unit => vu (μ.V at')) (fun _ => bj m (μ.acc who 1 at')) :=
 (UI m μ who at' hE).imp fun _ R H h => jb (by simp) h
theorem De (m : Nat) (μ : Mu) (who : Int) (at' : bV) (v : Nat) (hE : μ.N < 1099511627776) : Sp cY [vp m, vi who, dl at', vu v] (bj m μ) (fun _ : Unit => .tuple #[]) (fun _ => bj m ((μ.acc who 2 at').put at' v)) :=
 (PA m μ who at' v hE).imp fun _ R H h => jb (by simp) h
theorem Jj (m : Nat) (μ : Mu) (who : Int) (at' : bV) (was now : Nat) (hE : μ.N < 1099511627776) :
 Sp dA [vp m, vi who, dl at', vu was, vu now] (bj m μ) (fun _ : Unit => vb (decide (μ.V at' = was))) (fun _ => bj m (μ.swp who at' was now)) :=
 (UL m μ who at' was now hE).imp fun _ R H h => by
  have : (μ.swap who at' was now).N ≤ μ.N + 2 := by unfold Mu.swap; split <;> simp
  exact jb this h
theorem U9 (m : Nat) (μ : Mu) (who : Int) (at' : bV) (n : Nat) (hE : μ.N < 1099511627776) :
 Sp dY [vp m, vi who, dl at', vu n] (bj m μ) (fun _ : Unit => vu (μ.V at')) (fun _ => bj m ((μ.acc who 3 at').put at' ((μ.V at' + n) % 18446744073709551616))) :=
 (XP m μ who at' n hE).imp fun _ R H h => jb (by simp) h
def BS (p : bV × Nat) : List Value := [vi p.1.1, vi p.1.2.1, vi p.1.2.2]
def EL (p : bV × Nat) : List Value := [vu p.2]
instance : Enc BS 3 := ⟨fun _ => rfl, fun _ => rfl, by omega⟩
instance : Enc EL 1 := ⟨fun _ => rfl, fun _ => rfl, by omega⟩
def AU (m : Nat) (al : List (bV × Nat)) (E : List Ev) : SP := ex fun g : Value × Value × Value =>
 blk m (.cells false [g.1, g.2.1, g.2.2]) * (ts 3 BS g.1 al * (ts 1 EL g.2.1 al * ts 5 Ev.cells g.2.2 E))
def bk (m : Nat) (μ : Mu) : SP := ex fun al : List (bV × Nat) => pu ((∀ l, dQ al l = μ.V l) ∧ al.length + μ.E.length ≤ μ.N) * AU m al μ.E
def fu (al : List (bV × Nat)) (l : bV) : Nat := al.findIdx fun p => p.1 == l
def iF (al : List (bV × Nat)) (l : bV) : List (bV × Nat) := if fu al l < al.length then al else al ++ [(l, 0)]
theorem gZ (p : bV × Nat) (al : List (bV × Nat)) (l : bV) : fu (p :: al) l = if p.1 = l then 0 else fu al l + 1 := by
 unfold fu
 rw [List.findIdx_cons]
 by_cases h : p.1 = l
 ·simp [h]
 ·have : (p.1 == l) = false := by simpa using h
  simp [h, this]
theorem wC (l : bV) : ∀ (al : List (bV × Nat)) (h : fu al l < al.length), al[fu al l] = (l, dQ al l) := by
 intro al
 induction al with
 | nil => intro h; simp at h
 | cons p al ih =>
  intro h
  have e := gZ p al l
  by_cases hp : p.1 = l
  ·rw [if_pos hp] at e
   simp only [e, List.getElem_cons_zero, dk, hp, if_true]
   exact Prod.ext hp rfl
  ·rw [if_neg hp] at e
   rw [e, List.length_cons] at h
   simp only [e, List.getElem_cons_succ, dk, hp, if_false]
   exact ih (by omega)
theorem Hk (l x : bV) : ∀ (al : List (bV × Nat)), ¬ fu al l < al.length → dQ (al ++ [(l, 0)]) x = dQ al x := by
 intro al
 induction al with
 | nil =>
  intro _
  show dQ [(l, 0)] x = dQ [] x
  rw [dk]
  split <;> rfl
 | cons p al ih =>
  intro h
  have e := gZ p al l
  by_cases hp : p.1 = l
  ·rw [if_pos hp] at e
   simp [e] at h
  ·rw [if_neg hp] at e
   rw [List.cons_append, dk, dk, ih (by rw [e, List.length_cons] at h; omega)]
theorem wD (l : bV) (al : List (bV × Nat)) (h : ¬ fu al l < al.length) : fu (al ++ [(l, 0)]) l = al.length := by
 induction al with
 | nil => simp [fu, List.findIdx_cons]
 | cons p al ih =>
  have e := gZ p al l
  by_cases hp : p.1 = l
  ·rw [if_pos hp] at e
   simp [e] at h
  ·rw [if_neg hp] at e
   rw [List.cons_append, gZ, if_neg hp, ih (by rw [e, List.length_cons] at h; omega), List.length_cons]
theorem NQ (al : List (bV × Nat)) (l x : bV) : dQ (iF al l) x = dQ al x := by
 unfold iF
 split
 ·rfl
 ·exact Hk l x al (by assumption)
theorem Ro (al : List (bV × Nat)) (l : bV) : fu (iF al l) l < (iF al l).length := by
 unfold iF
 split
 ·assumption
 ·rw [wD l al (by assumption)]; simp
theorem Ah (l : bV) (v : Nat) : ∀ (al : List (bV × Nat)), fu al l < al.length → kf al l v = al.set (fu al l) (l, v) := by
 intro al
 induction al with
 | nil => intro h; simp at h
 | cons p al ih =>
  intro h
  have e := gZ p al l
  by_cases hp : p.1 = l
  ·rw [if_pos hp] at e
   simp [kf, hp, e]
  ·rw [if_neg hp] at e
   rw [e, List.length_cons] at h
   simp only [kf, hp, if_false, e, List.set_cons_succ]
   rw [ih (by omega)]
theorem MO (m : Nat) (al : List (bV × Nat)) (E : List Ev) (who kind : Int) (at' : bV) (hE : E.length < 1099511627776) : Sp bD [vp m, vi who, vi kind, dl at'] (AU m al E) (fun _ : Unit => .tuple #[]) (fun _ => AU m al (E ++ [⟨who, kind, at'⟩])) := by
 refine av fun R H h => ?_
 refine aw (fun r => yL _ _ _ _ H) ?_
 obtain ⟨⟨a, v, e⟩, h⟩ := ae.ex.1 h
 dsimp only at h
 repeat (first | refine aH ‹_› fun _ _ _ => ?_ | refine aO ‹_› fun _ _ _ => ?_ | refine bR ‹_› fun _ _ _ => ?_ | refine aM ‹_› ?_ | refine am ‹_› ac rfl ?_ | refine am ‹_› ak rfl ?_ | refine a7 ‹_› ac ?_ | refine a7 ‹_› ak ?_ | refine aJ ac ?_ | refine aJ ak ?_ | refine aE ‹_› rfl ?_ | refine aL ‹_› ac rfl rfl fun _ _ => ?_ | refine aL ‹_› ak rfl rfl fun _ _ => ?_ | refine bZ ‹_› rfl rfl fun _ _ => ?_ | refine dZ ?_ | refine j8 ‹_› fun _ _ _ => ?_ | refine aT ?_ | refine aD ‹_› ‹_› rfl ?_ | refine bn ‹_› ‹_› rfl ?_ | refine cm ?_)
 refine gQ ((⟨who, kind, at'⟩ : Ev)) (by assumption) rfl ?_ (by omega) fun a' c' _ _ => ?_
 ·unfold cC; omega
 repeat (first | refine aH ‹_› fun _ _ _ => ?_ | refine aO ‹_› fun _ _ _ => ?_ | refine bR ‹_› fun _ _ _ => ?_ | refine aM ‹_› ?_ | refine am ‹_› ac rfl ?_ | refine am ‹_› ak rfl ?_ | refine a7 ‹_› ac ?_ | refine a7 ‹_› ak ?_ | refine aJ ac ?_ | refine aJ ak ?_ | refine aE ‹_› rfl ?_ | refine aL ‹_› ac rfl rfl fun _ _ => ?_ | refine aL ‹_› ak rfl rfl fun _ _ => ?_ | refine bZ ‹_› rfl rfl fun _ _ => ?_ | refine dZ ?_ | refine j8 ‹_› fun _ _ _ => ?_ | refine aT ?_ | refine aD ‹_› ‹_› rfl ?_ | refine bn ‹_› ‹_› rfl ?_ | refine cm ?_)
 exact aq ⟨(), rfl, ae.ex.2 ⟨(a, v, .slice a' (E.length + 1) c'), ae.to (by assumption)⟩⟩
theorem Ep (l : bV) : ∀ (al : List (bV × Nat)) (k : Nat) (hk : k < al.length), al[k].1 = l → (∀ j, j < k → ∀ p, al[j]? = some p → p.1 ≠ l) → fu al l = k := by
 intro al
 induction al with
 | nil => intro k hk; simp at hk
 | cons p al ih =>
  intro k hk h hno
  rw [gZ]
  cases k with
  | zero => rw [if_pos (by simpa using h)]
  | succ k =>
   rw [if_neg (hno 0 (by omega) p rfl), ih k (by simpa using hk) (by simpa using h) fun j hj q hq => hno (j + 1) (by omega) q (by simpa using hq)]
theorem Jo {m b0 : Nat} {al : List (bV × Nat)} {E : List Ev} {at' : bV} {R : SP} (hal : al.length < 1099511627776) {a v e : Value} (x4 : Value) {H : AH}
 (h : ae (blk b0 (.cells false [vi at'.1, vi at'.2.1, vi at'.2.2]) * (blk m (.cells false [a, v, e]) * (ts 3 BS a al * (ts 1 EL v al * ts 5 Ev.cells e E)) * R)) H) :
 ∀ (n k : Nat), k + n = al.length → (∀ j, j < k → ∀ p, al[j]? = some p → p.1 ≠ at') →
  wp (wb (vp m) (vp b0) x4 (vi k) H) fun v' H' => v' = vi (fu (iF al at') at') ∧ ae (AU m (iF al at') E * R) H' := by
 intro n
 induction n with
 | zero =>
  intro k hk hno
  have hidx : ¬ fu al at' < al.length := by
   intro hlt
   have := wC at' al hlt
   exact hno _ (by omega) _ (List.getElem?_eq_getElem hlt) (by rw [this])
  refine ag (yS _ _ _ _ H) ?_
  refine am h ac rfl ?_
  refine mB (s := a) h ?_
  refine aa oQ ?_
  refine ca (fun hc => ?_) (fun hc => ?_)
  ·simp at hc; omega
  refine ag (Dv _ _ _ H) ?_
  refine ag (PV _ _ _ H) ?_
  have e1 : iF al at' = al ++ [(at', 0)] := if_neg hidx
  have e2 : fu (iF al at') at' = al.length := by rw [e1, wD at' al hidx]
  rw [e1, ← e1, e2, e1]
  repeat (first | refine aH ‹_› fun _ _ _ => ?_ | refine aO ‹_› fun _ _ _ => ?_ | refine bR ‹_› fun _ _ _ => ?_ | refine aM ‹_› ?_ | refine am ‹_› ac rfl ?_ | refine am ‹_› ak rfl ?_ | refine a7 ‹_› ac ?_ | refine a7 ‹_› ak ?_ | refine aJ ac ?_ | refine aJ ak ?_ | refine aE ‹_› rfl ?_ | refine aL ‹_› ac rfl rfl fun _ _ => ?_ | refine aL ‹_› ak rfl rfl fun _ _ => ?_ | refine bZ ‹_› rfl rfl fun _ _ => ?_ | refine dZ ?_ | refine j8 ‹_› fun _ _ _ => ?_ | refine aT ?_ | refine aD ‹_› ‹_› rfl ?_ | refine bn ‹_› ‹_› rfl ?_ | refine cm ?_)
  refine gQ (((at', 0) : bV × Nat)) (by assumption) rfl ?_ (by omega) fun a1 c1 H1 h1 => ?_
  ·unfold cC; omega
  repeat (first | refine aH ‹_› fun _ _ _ => ?_ | refine aO ‹_› fun _ _ _ => ?_ | refine bR ‹_› fun _ _ _ => ?_ | refine aM ‹_› ?_ | refine am ‹_› ac rfl ?_ | refine am ‹_› ak rfl ?_ | refine a7 ‹_› ac ?_ | refine a7 ‹_› ak ?_ | refine aJ ac ?_ | refine aJ ak ?_ | refine aE ‹_› rfl ?_ | refine aL ‹_› ac rfl rfl fun _ _ => ?_ | refine aL ‹_› ak rfl rfl fun _ _ => ?_ | refine bZ ‹_› rfl rfl fun _ _ => ?_ | refine dZ ?_ | refine j8 ‹_› fun _ _ _ => ?_ | refine aT ?_ | refine aD ‹_› ‹_› rfl ?_ | refine bn ‹_› ‹_› rfl ?_ | refine cm ?_)
  refine gQ (((at', 0) : bV × Nat)) (by assumption) rfl ?_ (by omega) fun a2 c2 H2 h2 => ?_
  ·unfold cC; omega
  repeat (first | refine aH ‹_› fun _ _ _ => ?_ | refine aO ‹_› fun _ _ _ => ?_ | refine bR ‹_› fun _ _ _ => ?_ | refine aM ‹_› ?_ | refine am ‹_› ac rfl ?_ | refine am ‹_› ak rfl ?_ | refine a7 ‹_› ac ?_ | refine a7 ‹_› ak ?_ | refine aJ ac ?_ | refine aJ ak ?_ | refine aE ‹_› rfl ?_ | refine aL ‹_› ac rfl rfl fun _ _ => ?_ | refine aL ‹_› ak rfl rfl fun _ _ => ?_ | refine bZ ‹_› rfl rfl fun _ _ => ?_ | refine dZ ?_ | refine j8 ‹_› fun _ _ _ => ?_ | refine aT ?_ | refine aD ‹_› ‹_› rfl ?_ | refine bn ‹_› ‹_› rfl ?_ | refine cm ?_)
  refine aa (a8 (by omega) (by omega)) ?_
  refine aq ⟨by congr 1; omega, ?_⟩
  exact ae.ex.2 ⟨(.slice a1 (al.length + 1) c1, .slice a2 (al.length + 1) c2, e), ae.to (by assumption)⟩
 | succ n ih =>
  intro k hk hno
  have hkl : k < al.length := by omega
  refine ag (yS _ _ _ _ H) ?_
  refine am h ac rfl ?_
  refine mB (s := a) h ?_
  refine aa oQ ?_
  refine ca (fun hc => ?_) (fun hc => ?_)
  ·refine ag (Jw _ _ _ _ H) ?_
   refine am h ac rfl ?_
   refine Ec (s := a) h hkl ?_
   refine aM h ?_
   refine aa (RO al[k].1 at') ?_
   refine ca (fun hc => ?_) (fun hc => ?_)
   ·have hc : al[k].1 = at' := by simpa using hc
    have hidx := Ep at' al k hkl hc hno
    have e1 : iF al at' = al := by unfold iF; rw [if_pos (by omega)]
    refine aq ⟨by rw [e1, hidx], ?_⟩
    rw [e1]
    exact ae.ex.2 ⟨(a, v, e), ae.to h⟩
   ·have hc : al[k].1 ≠ at' := by simpa using hc
    refine ag (Jx _ _ _ _ H) ?_
    refine aa (aB (by omega) (by omega)) ?_
    refine ih (k + 1) (by omega) fun j hj p hp => ?_
    by_cases hjk : j = k
    ·subst hjk
     rw [List.getElem?_eq_getElem hkl] at hp
     cases hp
     exact hc
    ·exact hno j (by omega) p hp
  ·simp at hc; omega
theorem PS (m : Nat) (al : List (bV × Nat)) (E : List Ev) (at' : bV) (hal : al.length < 1099511627776) : Sp yB [vp m, dl at'] (AU m al E) (fun _ : Unit => vi (fu (iF al at') at')) (fun _ => AU m (iF al at') E) := by
 refine av fun R H h => ?_
 refine aw (fun r => Z4 _ _ H) ?_
 obtain ⟨⟨a, v, e⟩, h⟩ := ae.ex.1 h
 dsimp only at h
 refine aH h fun b0 H1 h1 => ?_
 refine ag (PU _ _ _ H1) ?_
 refine ag (Jv _ _ _ _ H1) ?_
 refine (Jo hal (vi 0) h1 al.length 0 (by omega) (fun j hj => by omega)).mono fun v' H' h' => ⟨(), h'.1, h'.2⟩
theorem Yd (a : Value) (al : List (bV × Nat)) (i : Nat) (hi : i < al.length) (v : Nat) : ts 3 BS a (al.set i (al[i].1, v)) = ts 3 BS a al := by
 unfold ts
 rw [List.length_set, FC al i hi, mm al i hi]
 rfl
theorem yx {m : Nat} {μ : Mu} {al : List (bV × Nat)} {a v e : Value} {P R : SP} {H : AH} (hp : (∀ l, dQ al l = μ.V l) ∧ al.length + μ.E.length ≤ μ.N) (h : ae P H)
 {Z : SP} [f : Fr P ((blk m (.cells false [a, v, e]) * (ts 3 BS a al * (ts 1 EL v al * ts 5 Ev.cells e μ.E))) * R) Z] : ae (bk m μ * R) H := by
 refine ae.ex.2 ⟨al, ?_⟩
 rw [ap, ae.pu]
 exact ⟨hp, ae.ex.2 ⟨(a, v, e), h.to⟩⟩
theorem NR (al : List (bV × Nat)) (l : bV) : (iF al l).length ≤ al.length + 1 := by unfold iF; split <;> simp
def uD (m : Nat) (μ : Mu) (at' : bV) (i : Nat) : SP := ex fun g : List (bV × Nat) × Value × Value × Value =>
 pu ((∀ l, dQ g.1 l = μ.V l) ∧ g.1.length + μ.E.length ≤ μ.N ∧ fu g.1 at' = i ∧ i < g.1.length) * (blk m (.cells false [g.2.1, g.2.2.1, g.2.2.2]) * (ts 3 BS g.2.1 g.1 * (ts 1 EL g.2.2.1 g.1 * ts 5 Ev.cells g.2.2.2 μ.E)))
theorem Ei (m : Nat) (μ : Mu) (at' : bV) (hE : μ.N < 1099511627776) : Sp yB [vp m, dl at'] (bk m μ) (fun i : Nat => vi (i : Int)) (fun i => uD m { μ with N := μ.N + 1 } at' i) := by
 intro R H h
 obtain ⟨al, h⟩ := ae.ex.1 h
 rw [ap, ae.pu] at h
 obtain ⟨hp, h⟩ := h
 obtain ⟨_, H', e, h'⟩ := PS m al μ.E at' (by omega) R H h
 refine ⟨fu (iF al at') at', H', e, ?_⟩
 obtain ⟨⟨a, v, ev⟩, h'⟩ := ae.ex.1 h'
 refine ae.ex.2 ⟨(iF al at', a, v, ev), ?_⟩
 rw [ap, ae.pu]
 have := NR al at'
 exact ⟨⟨fun l => by rw [NQ, hp.1], by dsimp only; omega, rfl, Ro al at'⟩, h'⟩
theorem Q8 (m : Nat) (μ : Mu) (who kind : Int) (at' : bV) (hE : μ.N < 1099511627776) : Sp bD [vp m, vi who, vi kind, dl at'] (bk m μ) (fun _ : Unit => .tuple #[]) (fun _ => bk m (μ.log who kind at')) := by
 intro R H h
 obtain ⟨al, h⟩ := ae.ex.1 h
 rw [ap, ae.pu] at h
 obtain ⟨hp, h⟩ := h
 obtain ⟨_, H', e, h'⟩ := MO m al μ.E who kind at' (by omega) R H h
 refine ⟨(), H', e, ?_⟩
 refine ae.ex.2 ⟨al, ?_⟩
 rw [ap, ae.pu]
 exact ⟨⟨hp.1, by simp; omega⟩, h'⟩
theorem ZS (m : Nat) (μ : Mu) (Yw : bV) (i : Nat) (who kind : Int) (at' : bV) (hE : μ.N < 1099511627776) : Sp bD [vp m, vi who, vi kind, dl at'] (uD m μ Yw i) (fun _ : Unit => .tuple #[]) (fun _ => uD m (μ.log who kind at') Yw i) := by
 intro R H h
 obtain ⟨⟨al, a, v, e⟩, h⟩ := ae.ex.1 h
 rw [ap, ae.pu] at h
 obtain ⟨hp, h⟩ := h
 dsimp only at hp h
 obtain ⟨_, H', e', h'⟩ := MO m al μ.E who kind at' (by omega) R H (ae.ex.2 ⟨(a, v, e), h⟩)
 refine ⟨(), H', e', ?_⟩
 obtain ⟨⟨a2, v2, e2⟩, h'⟩ := ae.ex.1 h'
 refine ae.ex.2 ⟨(al, a2, v2, e2), ?_⟩
 rw [ap, ae.pu]
 exact ⟨⟨hp.1, by simp; omega, hp.2.2⟩, h'⟩
class Xi (P : SP) (m i : Nat) (μ : outParam Mu) (at' : outParam bV) (R : outParam SP) : Prop where
 eq : P = uD m μ at' i * R
instance (priority := high) Xi.refl (m i : Nat) (μ : Mu) (at' : bV) : Xi (uD m μ at' i) m i μ at' emp := ⟨(gN _).symm⟩
instance Xi.left (P Q R : SP) (m i : Nat) (μ : Mu) (at' : bV) [h : Xi P m i μ at' R] : Xi (P * Q) m i μ at' (R * Q) := ⟨by rw [h.eq, ap]⟩
instance Xi.right (P Q R : SP) (m i : Nat) (μ : Mu) (at' : bV) [h : Xi Q m i μ at' R] : Xi (P * Q) m i μ at' (P * R) := ⟨by rw [h.eq, bQ]⟩
section
variable {m i : Nat} {μ : Mu} {at' : bV} {P R : SP} {H : AH} {Q : Value → AH → Prop}
theorem Wt {k : Value → OV} (h : ae P H) [f : Xi P m i μ at' R] (hk : wp (k (vu (μ.V at'))) Q) : wp (ld [.n, .f 1] (vp m) H fun v => ld [.i 1 (vi i)] v H k) Q := by
 have h' : ae (uD m μ at' i * R) H := by rw [← f.eq]; exact h
 obtain ⟨⟨al, a, v, e⟩, h'⟩ := ae.ex.1 h'
 rw [ap, ae.pu] at h'
 obtain ⟨hp, h'⟩ := h'
 dsimp only at hp h'
 refine am h' ac rfl ?_
 obtain ⟨p1, _, p4, p5⟩ := hp
 refine aaT (s := v) h' p5 (v := vu (μ.V at')) ?_ hk
 subst p4
 rw [wC at' al p5]
 simp [EL, p1]
theorem Wu {k : AH → OV} {v : Nat} (h : ae P H) [f : Xi P m i μ at' R] (hk : ∀ H', ae (bk m (μ.put at' v) * R) H' → wp (k H') Q) : wp (ld [.n, .f 1] (vp m) H fun s => st 1 [.i 1 (vi i)] s (vu v) H k) Q := by
 have h0 : ae (uD m μ at' i * R) H := by rw [← f.eq]; exact h
 obtain ⟨⟨al, a, s, e⟩, h1⟩ := ae.ex.1 h0
 rw [ap, ae.pu] at h1
 obtain ⟨hp, h'⟩ := h1
 clear h0
 dsimp only at hp h'
 refine am h' ac rfl ?_
 obtain ⟨p1, p2, p4, p5⟩ := hp
 subst p4
 refine G4 (s := s) (g := 0) ((at', v) : bV × Nat) h' p5 (.inl ⟨rfl, rfl⟩) rfl (by omega) rfl rfl fun H' h2 => hk H' ?_
 have hat := wC at' al p5
 have hk2 := Yd a al (fu al at') p5 v
 rw [hat] at hk2
 rw [← Ah at' v al p5] at h2 hk2
 rw [← hk2] at h2
 refine yx (al := kf al at' v) (a := a) (v := s) (e := e) ⟨fun l => ?_, ?_⟩ h2
 ·rw [Ag, p1]
 ·rw [Ah at' v al p5, List.length_set]; exact p2
theorem Yj {x y : Value} {op : BinOp} {cl : TCls} {k : AH → OV} {v : Nat} (h : ae P H) [f : Xi P m i μ at' R] (hb : aj cl op x y = some (vu v)) (hk : ∀ H', ae (bk m (μ.put at' v) * R) H' → wp (k H') Q) :
 wp (ld [.n, .f 1] (vp m) H fun s => (aj cl op x y).bind fun z => st 1 [.i 1 (vi i)] s z H k) Q := by
 rw [hb]
 exact Wu h hk
theorem ab0 (h : ae P H) [f : Xi P m i μ at' R] : ae (bk m μ * R) H := by
 have h' : ae (uD m μ at' i * R) H := by rw [← f.eq]; exact h
 obtain ⟨⟨al, a, s, e⟩, h'⟩ := ae.ex.1 h'
 rw [ap, ae.pu] at h'
 obtain ⟨hp, h'⟩ := h'
 exact yx (al := al) (a := a) (v := s) (e := e) ⟨hp.1, hp.2.1⟩ h'
end
theorem ow (m : Nat) (μ : Mu) (who : Int) (at' : bV) (hE : μ.N < 1099511627000) : Sp cR [vp m, vi who, dl at'] (bk m μ) (fun _ : Unit => vu (μ.V at')) (fun _ => bk m (μ.acc who 1 at')) := by
 refine av fun R H h => ?_
 refine aw (fun r => vo _ _ _ H) ?_
 repeat (first | refine aH ‹_› fun _ _ _ => ?_ | refine aO ‹_› fun _ _ _ => ?_ | refine bR ‹_› fun _ _ _ => ?_ | refine aM ‹_› ?_ | refine am ‹_› ac rfl ?_ | refine am ‹_› ak rfl ?_ | refine a7 ‹_› ac ?_ | refine a7 ‹_› ak ?_ | refine aJ ac ?_ | refine aJ ak ?_ | refine aE ‹_› rfl ?_ | refine aL ‹_› ac rfl rfl fun _ _ => ?_ | refine aL ‹_› ak rfl rfl fun _ _ => ?_ | refine bZ ‹_› rfl rfl fun _ _ => ?_ | refine dZ ?_ | refine j8 ‹_› fun _ _ _ => ?_ | refine aT ?_ | refine aD ‹_› ‹_› rfl ?_ | refine bn ‹_› ‹_› rfl ?_ | refine cm ?_)
 refine af (by assumption) (Q8 m μ who 1 at' (by omega)) fun _ _ _ => ?_
 repeat (first | refine aH ‹_› fun _ _ _ => ?_ | refine aO ‹_› fun _ _ _ => ?_ | refine bR ‹_› fun _ _ _ => ?_ | refine aM ‹_› ?_ | refine am ‹_› ac rfl ?_ | refine am ‹_› ak rfl ?_ | refine a7 ‹_› ac ?_ | refine a7 ‹_› ak ?_ | refine aJ ac ?_ | refine aJ ak ?_ | refine aE ‹_› rfl ?_ | refine aL ‹_› ac rfl rfl fun _ _ => ?_ | refine aL ‹_› ak rfl rfl fun _ _ => ?_ | refine bZ ‹_› rfl rfl fun _ _ => ?_ | refine dZ ?_ | refine j8 ‹_› fun _ _ _ => ?_ | refine aT ?_ | refine aD ‹_› ‹_› rfl ?_ | refine bn ‹_› ‹_› rfl ?_ | refine cm ?_)
 refine af (by assumption) (Ei m (μ.log who 1 at') at' (by simp; omega)) fun i H3 h3 => ?_
 refine Wt h3 ?_
 exact aq ⟨(), rfl, ae.to (ab0 (m := m) (i := i) h3)⟩
theorem t6 (m : Nat) (μ : Mu) (who : Int) (at' : bV) (v : Nat) (hE : μ.N < 1099511627000) : Sp dV [vp m, vi who, dl at', vu v] (bk m μ) (fun _ : Unit => .tuple #[]) (fun _ => bk m ((μ.acc who 2 at').put at' v)) := by
 refine av fun R H h => ?_
 refine aw (fun r => tR _ _ _ _ H) ?_
 repeat (first | refine aH ‹_› fun _ _ _ => ?_ | refine aO ‹_› fun _ _ _ => ?_ | refine bR ‹_› fun _ _ _ => ?_ | refine aM ‹_› ?_ | refine am ‹_› ac rfl ?_ | refine am ‹_› ak rfl ?_ | refine a7 ‹_› ac ?_ | refine a7 ‹_› ak ?_ | refine aJ ac ?_ | refine aJ ak ?_ | refine aE ‹_› rfl ?_ | refine aL ‹_› ac rfl rfl fun _ _ => ?_ | refine aL ‹_› ak rfl rfl fun _ _ => ?_ | refine bZ ‹_› rfl rfl fun _ _ => ?_ | refine dZ ?_ | refine j8 ‹_› fun _ _ _ => ?_ | refine aT ?_ | refine aD ‹_› ‹_› rfl ?_ | refine bn ‹_› ‹_› rfl ?_ | refine cm ?_)
 refine af (by assumption) (Q8 m μ who 2 at' (by omega)) fun _ _ _ => ?_
 repeat (first | refine aH ‹_› fun _ _ _ => ?_ | refine aO ‹_› fun _ _ _ => ?_ | refine bR ‹_› fun _ _ _ => ?_ | refine aM ‹_› ?_ | refine am ‹_› ac rfl ?_ | refine am ‹_› ak rfl ?_ | refine a7 ‹_› ac ?_ | refine a7 ‹_› ak ?_ | refine aJ ac ?_ | refine aJ ak ?_ | refine aE ‹_› rfl ?_ | refine aL ‹_› ac rfl rfl fun _ _ => ?_ | refine aL ‹_› ak rfl rfl fun _ _ => ?_ | refine bZ ‹_› rfl rfl fun _ _ => ?_ | refine dZ ?_ | refine j8 ‹_› fun _ _ _ => ?_ | refine aT ?_ | refine aD ‹_› ‹_› rfl ?_ | refine bn ‹_› ‹_› rfl ?_ | refine cm ?_)
 refine af (by assumption) (Ei m (μ.log who 2 at') at' (by simp; omega)) fun i H3 h3 => ?_
 refine Wu (at' := at') h3 fun H4 h4 => ?_
 exact aq ⟨(), rfl, h4.to⟩
theorem yR (m : Nat) (μ : Mu) (who : Int) (at' : bV) (was now : Nat) (hE : μ.N < 1099511627000) :
 Sp eA [vp m, vi who, dl at', vu was, vu now] (bk m μ) (fun _ : Unit => vb (decide (μ.V at' = was))) (fun _ => bk m (μ.swp who at' was now)) := by
 refine av fun R H h => ?_
 refine aw (fun r => vq _ _ _ _ _ H) ?_
 repeat (first | refine aH ‹_› fun _ _ _ => ?_ | refine aO ‹_› fun _ _ _ => ?_ | refine bR ‹_› fun _ _ _ => ?_ | refine aM ‹_› ?_ | refine am ‹_› ac rfl ?_ | refine am ‹_› ak rfl ?_ | refine a7 ‹_› ac ?_ | refine a7 ‹_› ak ?_ | refine aJ ac ?_ | refine aJ ak ?_ | refine aE ‹_› rfl ?_ | refine aL ‹_› ac rfl rfl fun _ _ => ?_ | refine aL ‹_› ak rfl rfl fun _ _ => ?_ | refine bZ ‹_› rfl rfl fun _ _ => ?_ | refine dZ ?_ | refine j8 ‹_› fun _ _ _ => ?_ | refine aT ?_ | refine aD ‹_› ‹_› rfl ?_ | refine bn ‹_› ‹_› rfl ?_ | refine cm ?_)
 refine af (by assumption) (Ei m μ at' (by omega)) fun i H3 h3 => ?_
 refine Wt h3 ?_
 refine aa (Y3) ?_
 unfold Mu.swp Mu.swap
 refine ca (fun hc => ?_) (fun hc => ?_)
 ·have hc : ¬ μ.V at' = was := by simpa using hc
  rw [if_neg hc, decide_eq_false hc]
  repeat (first | refine aH ‹_› fun _ _ _ => ?_ | refine aO ‹_› fun _ _ _ => ?_ | refine bR ‹_› fun _ _ _ => ?_ | refine aM ‹_› ?_ | refine am ‹_› ac rfl ?_ | refine am ‹_› ak rfl ?_ | refine a7 ‹_› ac ?_ | refine a7 ‹_› ak ?_ | refine aJ ac ?_ | refine aJ ak ?_ | refine aE ‹_› rfl ?_ | refine aL ‹_› ac rfl rfl fun _ _ => ?_ | refine aL ‹_› ak rfl rfl fun _ _ => ?_ | refine bZ ‹_› rfl rfl fun _ _ => ?_ | refine dZ ?_ | refine j8 ‹_› fun _ _ _ => ?_ | refine aT ?_ | refine aD ‹_› ‹_› rfl ?_ | refine bn ‹_› ‹_› rfl ?_ | refine cm ?_)
  refine af (by assumption) (ZS m { μ with N := μ.N + 1 } at' i who 4 at' (by simp; omega)) fun _ H4 h4 => ?_
  exact aq ⟨(), rfl, ae.to (ab0 (m := m) (i := i) h4)⟩
 ·have hc : μ.V at' = was := by simpa using hc
  rw [if_pos hc, decide_eq_true hc]
  repeat (first | refine aH ‹_› fun _ _ _ => ?_ | refine aO ‹_› fun _ _ _ => ?_ | refine bR ‹_› fun _ _ _ => ?_ | refine aM ‹_› ?_ | refine am ‹_› ac rfl ?_ | refine am ‹_› ak rfl ?_ | refine a7 ‹_› ac ?_ | refine a7 ‹_› ak ?_ | refine aJ ac ?_ | refine aJ ak ?_ | refine aE ‹_› rfl ?_ | refine aL ‹_› ac rfl rfl fun _ _ => ?_ | refine aL ‹_› ak rfl rfl fun _ _ => ?_ | refine bZ ‹_› rfl rfl fun _ _ => ?_ | refine dZ ?_ | refine j8 ‹_› fun _ _ _ => ?_ | refine aT ?_ | refine aD ‹_› ‹_› rfl ?_ | refine bn ‹_› ‹_› rfl ?_ | refine cm ?_)
  refine af (by assumption) (ZS m { μ with N := μ.N + 1 } at' i who 3 at' (by simp; omega)) fun _ H4 h4 => ?_
  refine Wu (at' := at') h4 fun H5 h5 => ?_
  exact aq ⟨(), rfl, h5.to⟩
theorem Dq (m : Nat) (μ : Mu) (who : Int) (at' : bV) (n : Nat) (hE : μ.N < 1099511627000) :
 Sp fA [vp m, vi who, dl at', vu n] (bk m μ) (fun _ : Unit => vu (μ.V at')) (fun _ => bk m ((μ.acc who 3 at').put at' ((μ.V at' + n) % 18446744073709551616))) := by
 refine av fun R H h => ?_
 refine aw (fun r => yK _ _ _ _ H) ?_
 repeat (first | refine aH ‹_› fun _ _ _ => ?_ | refine aO ‹_› fun _ _ _ => ?_ | refine bR ‹_› fun _ _ _ => ?_ | refine aM ‹_› ?_ | refine am ‹_› ac rfl ?_ | refine am ‹_› ak rfl ?_ | refine a7 ‹_› ac ?_ | refine a7 ‹_› ak ?_ | refine aJ ac ?_ | refine aJ ak ?_ | refine aE ‹_› rfl ?_ | refine aL ‹_› ac rfl rfl fun _ _ => ?_ | refine aL ‹_› ak rfl rfl fun _ _ => ?_ | refine bZ ‹_› rfl rfl fun _ _ => ?_ | refine dZ ?_ | refine j8 ‹_› fun _ _ _ => ?_ | refine aT ?_ | refine aD ‹_› ‹_› rfl ?_ | refine bn ‹_› ‹_› rfl ?_ | refine cm ?_)
 refine af (by assumption) (Ei m μ at' (by omega)) fun i H3 h3 => ?_
 repeat (first | refine aH ‹_› fun _ _ _ => ?_ | refine aO ‹_› fun _ _ _ => ?_ | refine bR ‹_› fun _ _ _ => ?_ | refine aM ‹_› ?_ | refine am ‹_› ac rfl ?_ | refine am ‹_› ak rfl ?_ | refine a7 ‹_› ac ?_ | refine a7 ‹_› ak ?_ | refine aJ ac ?_ | refine aJ ak ?_ | refine aE ‹_› rfl ?_ | refine aL ‹_› ac rfl rfl fun _ _ => ?_ | refine aL ‹_› ak rfl rfl fun _ _ => ?_ | refine bZ ‹_› rfl rfl fun _ _ => ?_ | refine dZ ?_ | refine j8 ‹_› fun _ _ _ => ?_ | refine aT ?_ | refine aD ‹_› ‹_› rfl ?_ | refine bn ‹_› ‹_› rfl ?_ | refine cm ?_)
 refine af (by assumption) (ZS m { μ with N := μ.N + 1 } at' i who 3 at' (by simp; omega)) fun _ H4 h4 => ?_
 refine Wt h4 ?_
 refine Yj (at' := at') h4 Yv fun H5 h5 => ?_
 exact aq ⟨(), rfl, h5.to⟩
def cD (w : Nat) : Bool := decide (w / 2305843009213693952 < 3)
def aP (w : Nat) : Nat := if cD w then w % 2305843009213693952 else 0
def bi (w : Nat) : Int := if cD w then (w / 2305843009213693952 : Nat) else -1
def a9 (w : Nat) : Nat → Option Nat
 | 0 => if cD w ∧ bi w ≠ 2 ∧ aP w < 2305843009213693951 then some (aP w + 1 + 2305843009213693952) else none
 | 1 => if bi w = 1 then some (aP w) else none
 | 2 => if bi w = 0 then some (aP w + 4611686018427387904) else none
 | _ => none
def Jh : Option Nat → Value
 | some n => .tuple #[vu n, vb true]
 | none => .tuple #[vw 0, vb false]
theorem qW (w : Nat) : Sp gD [vu w] emp (fun _ : Unit => vb (cD w)) (fun _ => emp) := by
 refine av fun R H h => ?_
 refine aw (fun r => Ad _ H) ?_
 refine aa (Y7) ?_
 refine aa (oQ) ?_
 refine aq ⟨(), ?_, h⟩
 congr 1
 unfold cD
 congr 1
 apply propext
 omega
theorem iv (w : Nat) (hw : w < 18446744073709551616) : Sp dg [vu w] emp (fun _ : Unit => vu (aP w)) (fun _ => emp) := by
 refine av fun R H h => ?_
 refine aw (fun r => Ac _ H) ?_
 refine af (by assumption) (qW w) fun _ _ _ => ?_
 refine aa (ug) ?_
 refine ca (fun hc => ?_) (fun hc => ?_)
 ·have hc : cD w = false := by simpa using hc
  refine aq ⟨(), by simp [aP, hc], ae.to (by assumption)⟩
 ·have hc : cD w = true := by simpa using hc
  refine aa (aa4 hw) ?_
  refine aq ⟨(), by simp [aP, hc], ae.to (by assumption)⟩
theorem mD (w : Nat) (hw : w < 18446744073709551616) : Sp eZ [vu w] emp (fun _ : Unit => vi (bi w)) (fun _ => emp) := by
 refine av fun R H h => ?_
 refine aw (fun r => Ae _ H) ?_
 refine af (by assumption) (qW w) fun _ _ _ => ?_
 refine aa (ug) ?_
 refine ca (fun hc => ?_) (fun hc => ?_)
 ·have hc : cD w = false := by simpa using hc
  refine aq ⟨(), by simp [bi, hc], ae.to (by assumption)⟩
 ·have hc : cD w = true := by simpa using hc
  refine aa (Y7) ?_
  refine aa (fC (by omega)) ?_
  refine aq ⟨(), by simp [bi, hc], ae.to (by assumption)⟩
theorem lN (w : Nat) (hw : w < 18446744073709551616) : Sp ez [vu w] emp (fun _ : Unit => .tuple #[vu (aP w), vi (bi w), vb (cD w)]) (fun _ => emp) := by
 refine av fun R H h => ?_
 refine aw (fun r => Dl _ H) ?_
 refine aa (abL) ?_
 refine aa (abJ hw) ?_
 refine aa (fC (by omega)) ?_
 refine aa (BH) ?_
 refine ca (fun hc => ?_) (fun hc => ?_)
 ·have hc : cD w = false := by simp at hc; simp [cD]; omega
  refine aq ⟨(), by simp [aP, bi, hc], h.to⟩
 ·have hc : cD w = true := by simp at hc; simp [cD]; omega
  refine aq ⟨(), by simp [aP, bi, hc], h.to⟩
theorem Q4 (n : Nat) (s : Nat) (hn : n ≤ 2305843009213693951) (hs : s < 3) : Sp oc [vu n, vi (s : Int)] emp (fun _ : Unit => .tuple #[vu (s * 2305843009213693952 + n), vb true]) (fun _ => emp) := by
 refine av fun R H h => ?_
 refine aw (fun r => Eg _ _ H) ?_
 refine aa (gU (by omega)) ?_
 with_reducible repeat refine gh ?_
 refine aa (zT (bI ?_)) ?_
 ·omega
 with_reducible repeat refine gh ?_
 refine aa (zT (pQ ?_)) ?_
 ·omega
 with_reducible repeat refine gh ?_
 refine ca (fun hc => by cases hc) (fun _ => ?_)
 refine aa (cU (by omega) (by omega)) ?_
 have e1 : aj .other .shl (vu (s : Int).toNat) (vw 61) = some (vu (s * 2305843009213693952)) := by
  have := Ak (cl := .other) (a := s) (k := .u64) (n := 61) (by omega)
  simp only [Nat.reducePow] at this
  rw [Nat.mod_eq_of_lt (by omega)] at this
  simpa using this
 refine aa (e1) ?_
 have e2 : aj .other .or (vu (s * 2305843009213693952)) (vu n) = some (vu (s * 2305843009213693952 + n)) := by
  rw [Ru (by omega) (by omega)]
  congr 3
  have := Nat.two_pow_add_eq_or_of_lt (i := 61) (b := n) (by simp only [Nat.reducePow]; omega) s
  simp only [Nat.reducePow] at this
  rw [Nat.mul_comm, ← this]
 refine aa (e2) ?_
 exact aq ⟨(), rfl, h.to⟩
theorem yJ (n : Nat) (s : Nat) (hn : n ≤ 2305843009213693951) (hs : s < 3) : Sp jU [vu n, vi (s : Int)] emp (fun _ : Unit => .tuple #[vu (s * 2305843009213693952 + n), vb true]) (fun _ => emp) := by
 refine av fun R H h => ?_
 refine aw (fun r => Gf _ _ H) ?_
 refine aa (gU (by omega)) ?_
 with_reducible repeat refine gh ?_
 refine aa (zT (bI ?_)) ?_
 ·omega
 with_reducible repeat refine gh ?_
 refine aa (zT (gU ?_)) ?_
 ·omega
 with_reducible repeat refine gh ?_
 refine ca (fun hc => by cases hc) (fun _ => ?_)
 refine aa (cU (by omega) (by omega)) ?_
 have hs2 : (s : Int).toNat = s := by omega
 rw [hs2]
 refine aa (abF (by omega)) ?_
 refine aa (dW (by omega)) ?_
 exact aq ⟨(), rfl, h.to⟩
theorem dH (w : Nat) : aP w ≤ 2305843009213693951 := by unfold aP; split <;> omega
theorem Zc {w : Nat} (h : cD w = true ∧ bi w ≠ 2 ∧ aP w < 2305843009213693951) : a9 w 0 = some (aP w + 1 + 2305843009213693952) := if_pos h
theorem GX {w : Nat} (h : ¬ (cD w = true ∧ bi w ≠ 2 ∧ aP w < 2305843009213693951)) : a9 w 0 = none := if_neg h
theorem abS {w : Nat} (h : bi w = 1) : a9 w 1 = some (aP w) := if_pos h
theorem abR {w : Nat} (h : ¬ bi w = 1) : a9 w 1 = none := if_neg h
theorem abU {w : Nat} (h : bi w = 0) : a9 w 2 = some (aP w + 4611686018427387904) := if_pos h
theorem abT {w : Nat} (h : ¬ bi w = 0) : a9 w 2 = none := if_neg h
theorem Q3 (w : Nat) (hw : w < 18446744073709551616) : Sp kC [vu w] emp (fun _ : Unit => Jh (a9 w 0)) (fun _ => emp) := by
 refine av fun R H h => ?_
 refine aw (fun r => Ef _ H) ?_
 have hcl := dH w
 refine af (by assumption) (qW w) fun _ _ _ => ?_
 refine aa (ug) ?_
 by_cases hr : cD w = true
 ·rw [hr, Bool.not_true]
  with_reducible repeat refine gh ?_
  refine af (by assumption) (mD w hw) fun _ _ _ => ?_
  refine aa (zT (kg)) ?_
  by_cases hs : bi w = 2
  ·rw [beq_iff_eq.2 hs]
   with_reducible repeat refine gh ?_
   refine ca (fun _ => ?_) (fun hc => by cases hc)
   exact aq ⟨(), by rw [GX (fun h => h.2.1 hs)]; rfl, ae.to (by assumption)⟩
  ·rw [beq_eq_false_iff_ne.2 hs]
   with_reducible repeat refine gh ?_
   refine af (by assumption) (iv w hw) fun _ _ _ => ?_
   refine aa (zT (kg)) ?_
   with_reducible repeat refine gh ?_
   refine ca (fun hc => ?_) (fun hc => ?_)
   ·have hc : (aP w : Int) = 2305843009213693951 := by simpa using hc
    exact aq ⟨(), by rw [GX (fun h => by have := h.2.2; omega)]; rfl, ae.to (by assumption)⟩
   ·have hc : ¬ (aP w : Int) = 2305843009213693951 := by simpa using hc
    have ht := Zc (w := w) ⟨hr, hs, by omega⟩
    refine af (by assumption) (iv w hw) fun _ _ _ => ?_
    refine aa (dW (b := 1) (by omega)) ?_
    refine af (by assumption) (Q4 (aP w + 1) 1 (by omega) (by omega)) fun _ _ _ => ?_
    refine aa rfl ?_
    refine aa rfl ?_
    refine aq ⟨(), ?_, ae.to (by assumption)⟩
    rw [ht]
    simp [Jh]
    omega
 ·have hr : cD w = false := by simpa using hr
  rw [hr, Bool.not_false]
  with_reducible repeat refine gh ?_
  refine ca (fun _ => ?_) (fun hc => by cases hc)
  exact aq ⟨(), by rw [GX (fun h => by rw [hr] at h; cases h.1)]; rfl, ae.to (by assumption)⟩
theorem Js (w how : Nat) (hw : w < 18446744073709551616) (hh : how < 3) : Sp mp [vu w, vi (how : Int)] emp (fun _ : Unit => Jh (a9 w how)) (fun _ => emp) := by
 refine av fun R H h => ?_
 refine aw (fun r => z4 _ _ H) ?_
 have hcl := dH w
 refine af (by assumption) (lN w hw) fun _ H1 h1 => ?_
 refine aa rfl ?_
 refine aa rfl ?_
 refine aa rfl ?_
 refine ag (tO _ _ _ _ _ _ H1) ?_
 refine aa (ug) ?_
 refine ca (fun hc => ?_) (fun hc => ?_)
 ·have hc : cD w = false := by simpa using hc
  have : a9 w how = none := by
   match how, hh with
   | 0, _ => simp [a9, hc]
   | 1, _ => simp [a9, bi, hc]
   | 2, _ => simp [a9, bi, hc]
  exact aq ⟨(), by rw [this]; rfl, ae.to (by assumption)⟩
 ·have hr : cD w = true := by simpa using hc
  match how, hh with
  | 0, _ =>
   refine aa (bo rfl) ?_
   with_reducible repeat refine gh ?_
   refine aa (zT (vG)) ?_
   with_reducible repeat refine gh ?_
   by_cases hs : bi w = 2
   ·rw [bne_eq_false_iff_eq.2 hs]
    with_reducible repeat refine gh ?_
    refine ca (fun hc => by cases hc) (fun _ => ?_)
    refine aa (aR ?_) ?_
    ·omega
    with_reducible repeat refine gh ?_
    refine ca (fun hc => by cases hc) (fun _ => ?_)
    refine aa (aR ?_) ?_
    ·omega
    with_reducible repeat refine gh ?_
    refine ca (fun hc => by cases hc) (fun _ => ?_)
    refine ag (e8 _ _ H1) ?_
    exact aq ⟨(), by rw [GX (fun h => h.2.1 hs)]; rfl, ae.to (by assumption)⟩
   ·rw [bne_iff_ne.2 hs]
    with_reducible repeat refine gh ?_
    refine aa (zT (oQ)) ?_
    with_reducible repeat refine gh ?_
    refine ca (fun hc => ?_) (fun hc => ?_)
    ·have hc : (aP w : Int) < 2305843009213693951 := by simpa using hc
     have ht := Zc (w := w) ⟨hr, hs, by omega⟩
     refine aa (dW (b := 1) (by omega)) ?_
     refine af (by assumption) (yJ (aP w + 1) 1 (by omega) (by omega)) fun _ _ _ => ?_
     refine aa rfl ?_
     refine aa rfl ?_
     refine aq ⟨(), ?_, ae.to (by assumption)⟩
     rw [ht]
     simp [Jh]
     omega
    ·have hc : ¬ (aP w : Int) < 2305843009213693951 := by simpa using hc
     refine aa (aR ?_) ?_
     ·omega
     with_reducible repeat refine gh ?_
     refine ca (fun hc => by cases hc) (fun _ => ?_)
     refine aa (aR ?_) ?_
     ·omega
     with_reducible repeat refine gh ?_
     refine ca (fun hc => by cases hc) (fun _ => ?_)
     refine ag (e8 _ _ H1) ?_
     exact aq ⟨(), by rw [GX (fun h => by have := h.2.2; omega)]; rfl, ae.to (by assumption)⟩
  | 1, _ =>
   refine aa (aR ?_) ?_
   ·omega
   with_reducible repeat refine gh ?_
   refine ca (fun hc => by cases hc) (fun _ => ?_)
   refine aa (bo rfl) ?_
   with_reducible repeat refine gh ?_
   refine aa (zT (kg)) ?_
   with_reducible repeat refine gh ?_
   refine ca (fun hc => ?_) (fun hc => ?_)
   ·have hc : bi w = 1 := by simpa using hc
    refine af (by assumption) (yJ (aP w) 0 (by omega) (by omega)) fun _ _ _ => ?_
    refine aa rfl ?_
    refine aa rfl ?_
    exact aq ⟨(), by rw [abS hc]; simp [Jh], ae.to (by assumption)⟩
   ·have hc : ¬ bi w = 1 := by simpa using hc
    refine aa (aR ?_) ?_
    ·omega
    with_reducible repeat refine gh ?_
    refine ca (fun hc => by cases hc) (fun _ => ?_)
    refine ag (e8 _ _ H1) ?_
    exact aq ⟨(), by rw [abR hc]; rfl, ae.to (by assumption)⟩
  | 2, _ =>
   refine aa (aR ?_) ?_
   ·omega
   with_reducible repeat refine gh ?_
   refine ca (fun hc => by cases hc) (fun _ => ?_)
   refine aa (aR ?_) ?_
   ·omega
   with_reducible repeat refine gh ?_
   refine ca (fun hc => by cases hc) (fun _ => ?_)
   refine aa (bo rfl) ?_
   with_reducible repeat refine gh ?_
   refine aa (zT (kg)) ?_
   with_reducible repeat refine gh ?_
   refine ca (fun hc => ?_) (fun hc => ?_)
   ·have hc : bi w = 0 := by simpa using hc
    refine af (by assumption) (yJ (aP w) 2 (by omega) (by omega)) fun _ _ _ => ?_
    refine aa rfl ?_
    refine aa rfl ?_
    refine aq ⟨(), ?_, ae.to (by assumption)⟩
    rw [abU hc]
    simp [Jh]
    omega
   ·have hc : ¬ bi w = 0 := by simpa using hc
    refine ag (e8 _ _ H1) ?_
    exact aq ⟨(), by rw [abT hc]; rfl, ae.to (by assumption)⟩
theorem uL (s : Int) : Sp iz [vi s] emp (fun _ : Unit => dl (8, s, 0)) (fun _ => emp) := by
 refine av fun R H h => ?_
 refine aw (fun r => zp _ H) ?_
 repeat (first | refine aH ‹_› fun _ _ _ => ?_ | refine aO ‹_› fun _ _ _ => ?_ | refine bR ‹_› fun _ _ _ => ?_ | refine aM ‹_› ?_ | refine am ‹_› ac rfl ?_ | refine am ‹_› ak rfl ?_ | refine a7 ‹_› ac ?_ | refine a7 ‹_› ak ?_ | refine aJ ac ?_ | refine aJ ak ?_ | refine aE ‹_› rfl ?_ | refine aL ‹_› ac rfl rfl fun _ _ => ?_ | refine aL ‹_› ak rfl rfl fun _ _ => ?_ | refine bZ ‹_› rfl rfl fun _ _ => ?_ | refine dZ ?_ | refine j8 ‹_› fun _ _ _ => ?_ | refine aT ?_ | refine aD ‹_› ‹_› rfl ?_ | refine bn ‹_› ‹_› rfl ?_ | refine cm ?_)
 exact aq ⟨(), rfl, ae.to (by assumption)⟩
theorem zq (s i : Int) : Sp jc [vi s, vi i] emp (fun _ : Unit => dl (10, s, i)) (fun _ => emp) := by
 refine av fun R H h => ?_
 refine aw (fun r => Aa _ _ H) ?_
 repeat (first | refine aH ‹_› fun _ _ _ => ?_ | refine aO ‹_› fun _ _ _ => ?_ | refine bR ‹_› fun _ _ _ => ?_ | refine aM ‹_› ?_ | refine am ‹_› ac rfl ?_ | refine am ‹_› ak rfl ?_ | refine a7 ‹_› ac ?_ | refine a7 ‹_› ak ?_ | refine aJ ac ?_ | refine aJ ak ?_ | refine aE ‹_› rfl ?_ | refine aL ‹_› ac rfl rfl fun _ _ => ?_ | refine aL ‹_› ak rfl rfl fun _ _ => ?_ | refine bZ ‹_› rfl rfl fun _ _ => ?_ | refine dZ ?_ | refine j8 ‹_› fun _ _ _ => ?_ | refine aT ?_ | refine aD ‹_› ‹_› rfl ?_ | refine bn ‹_› ‹_› rfl ?_ | refine cm ?_)
 exact aq ⟨(), rfl, ae.to (by assumption)⟩
theorem cV (k a b : Int) : Sp bF [vi k, vi a, vi b] emp (fun _ : Unit => dl (k, a, b)) (fun _ => emp) := by
 refine av fun R H h => ?_
 refine aw (fun r => Jt _ _ _ H) ?_
 repeat (first | refine aH ‹_› fun _ _ _ => ?_ | refine aO ‹_› fun _ _ _ => ?_ | refine bR ‹_› fun _ _ _ => ?_ | refine aM ‹_› ?_ | refine am ‹_› ac rfl ?_ | refine am ‹_› ak rfl ?_ | refine a7 ‹_› ac ?_ | refine a7 ‹_› ak ?_ | refine aJ ac ?_ | refine aJ ak ?_ | refine aE ‹_› rfl ?_ | refine aL ‹_› ac rfl rfl fun _ _ => ?_ | refine aL ‹_› ak rfl rfl fun _ _ => ?_ | refine bZ ‹_› rfl rfl fun _ _ => ?_ | refine dZ ?_ | refine j8 ‹_› fun _ _ _ => ?_ | refine aT ?_ | refine aD ‹_› ‹_› rfl ?_ | refine bn ‹_› ‹_› rfl ?_ | refine cm ?_)
 exact aq ⟨(), rfl, ae.to (by assumption)⟩
def tab (t m : Nat) (sh sl : Nat) : SP := blk t (.cells false [vp m, vi sh, vi sl])
section
variable (t m : Nat) (sh sl : Nat) (μ : Mu) (who s i : Int)
theorem GS : Sp fj [vp t] (tab t m sh sl) (fun _ : Unit => vi sl) (fun _ => tab t m sh sl) := by
 refine av fun R H h => ?_
 refine aw (fun r => oC _ H) ?_
 unfold tab at h ⊢
 repeat (first | refine aH ‹_› fun _ _ _ => ?_ | refine aO ‹_› fun _ _ _ => ?_ | refine bR ‹_› fun _ _ _ => ?_ | refine aM ‹_› ?_ | refine am ‹_› ac rfl ?_ | refine am ‹_› ak rfl ?_ | refine a7 ‹_› ac ?_ | refine a7 ‹_› ak ?_ | refine aJ ac ?_ | refine aJ ak ?_ | refine aE ‹_› rfl ?_ | refine aL ‹_› ac rfl rfl fun _ _ => ?_ | refine aL ‹_› ak rfl rfl fun _ _ => ?_ | refine bZ ‹_› rfl rfl fun _ _ => ?_ | refine dZ ?_ | refine j8 ‹_› fun _ _ _ => ?_ | refine aT ?_ | refine aD ‹_› ‹_› rfl ?_ | refine bn ‹_› ‹_› rfl ?_ | refine cm ?_)
 exact aq ⟨(), rfl, ae.to (by assumption)⟩
theorem Kx (hE : μ.N < 1099511627000) : Sp f0 [vp t, vi who, vi s] (tab t m sh sl * bj m μ) (fun _ : Unit => vb (decide (μ.V (8, s, 0) = 0))) (fun _ => tab t m sh sl * bj m (μ.swp who (8, s, 0) 0 1)) := by
 refine av fun R H h => ?_
 refine aw (fun r => pI _ _ _ H) ?_
 unfold tab at h ⊢
 repeat (first | refine aH ‹_› fun _ _ _ => ?_ | refine aO ‹_› fun _ _ _ => ?_ | refine bR ‹_› fun _ _ _ => ?_ | refine aM ‹_› ?_ | refine am ‹_› ac rfl ?_ | refine am ‹_› ak rfl ?_ | refine a7 ‹_› ac ?_ | refine a7 ‹_› ak ?_ | refine aJ ac ?_ | refine aJ ak ?_ | refine aE ‹_› rfl ?_ | refine aL ‹_› ac rfl rfl fun _ _ => ?_ | refine aL ‹_› ak rfl rfl fun _ _ => ?_ | refine bZ ‹_› rfl rfl fun _ _ => ?_ | refine dZ ?_ | refine j8 ‹_› fun _ _ _ => ?_ | refine aT ?_ | refine aD ‹_› ‹_› rfl ?_ | refine bn ‹_› ‹_› rfl ?_ | refine cm ?_)
 refine af (by assumption) (uL s) fun _ _ _ => ?_
 repeat (first | refine aH ‹_› fun _ _ _ => ?_ | refine aO ‹_› fun _ _ _ => ?_ | refine bR ‹_› fun _ _ _ => ?_ | refine aM ‹_› ?_ | refine am ‹_› ac rfl ?_ | refine am ‹_› ak rfl ?_ | refine a7 ‹_› ac ?_ | refine a7 ‹_› ak ?_ | refine aJ ac ?_ | refine aJ ak ?_ | refine aE ‹_› rfl ?_ | refine aL ‹_› ac rfl rfl fun _ _ => ?_ | refine aL ‹_› ak rfl rfl fun _ _ => ?_ | refine bZ ‹_› rfl rfl fun _ _ => ?_ | refine dZ ?_ | refine j8 ‹_› fun _ _ _ => ?_ | refine aT ?_ | refine aD ‹_› ‹_› rfl ?_ | refine bn ‹_› ‹_› rfl ?_ | refine cm ?_)
 refine af (by assumption) (Jj m μ who (8, s, 0) 0 1 (by omega)) fun _ _ _ => ?_
 exact aq ⟨(), rfl, ae.to (by assumption)⟩
theorem D8 (hE : μ.N < 1099511627000) : Sp eC [vp t, vi who, vi s] (tab t m sh sl * bj m μ) (fun _ : Unit => .tuple #[]) (fun _ => tab t m sh sl * bj m ((μ.acc who 2 (8, s, 0)).put (8, s, 0) 0)) := by
 refine av fun R H h => ?_
 refine aw (fun r => ng _ _ _ H) ?_
 unfold tab at h ⊢
 repeat (first | refine aH ‹_› fun _ _ _ => ?_ | refine aO ‹_› fun _ _ _ => ?_ | refine bR ‹_› fun _ _ _ => ?_ | refine aM ‹_› ?_ | refine am ‹_› ac rfl ?_ | refine am ‹_› ak rfl ?_ | refine a7 ‹_› ac ?_ | refine a7 ‹_› ak ?_ | refine aJ ac ?_ | refine aJ ak ?_ | refine aE ‹_› rfl ?_ | refine aL ‹_› ac rfl rfl fun _ _ => ?_ | refine aL ‹_› ak rfl rfl fun _ _ => ?_ | refine bZ ‹_› rfl rfl fun _ _ => ?_ | refine dZ ?_ | refine j8 ‹_› fun _ _ _ => ?_ | refine aT ?_ | refine aD ‹_› ‹_› rfl ?_ | refine bn ‹_› ‹_› rfl ?_ | refine cm ?_)
 refine af (by assumption) (uL s) fun _ _ _ => ?_
 repeat (first | refine aH ‹_› fun _ _ _ => ?_ | refine aO ‹_› fun _ _ _ => ?_ | refine bR ‹_› fun _ _ _ => ?_ | refine aM ‹_› ?_ | refine am ‹_› ac rfl ?_ | refine am ‹_› ak rfl ?_ | refine a7 ‹_› ac ?_ | refine a7 ‹_› ak ?_ | refine aJ ac ?_ | refine aJ ak ?_ | refine aE ‹_› rfl ?_ | refine aL ‹_› ac rfl rfl fun _ _ => ?_ | refine aL ‹_› ak rfl rfl fun _ _ => ?_ | refine bZ ‹_› rfl rfl fun _ _ => ?_ | refine dZ ?_ | refine j8 ‹_› fun _ _ _ => ?_ | refine aT ?_ | refine aD ‹_› ‹_› rfl ?_ | refine bn ‹_› ‹_› rfl ?_ | refine cm ?_)
 refine af (by assumption) (De m μ who (8, s, 0) 0 (by omega)) fun _ _ _ => ?_
 exact aq ⟨(), rfl, ae.to (by assumption)⟩
theorem Vf (hE : μ.N < 1099511627000) : Sp im [vp t, vi who, vi s] (tab t m sh sl * bk m μ) (fun _ : Unit => vb (decide (μ.V (8, s, 0) = 0))) (fun _ => tab t m sh sl * bk m (μ.swp who (8, s, 0) 0 1)) := by
 refine av fun R H h => ?_
 refine aw (fun r => sL _ _ _ H) ?_
 unfold tab at h ⊢
 repeat (first | refine aH ‹_› fun _ _ _ => ?_ | refine aO ‹_› fun _ _ _ => ?_ | refine bR ‹_› fun _ _ _ => ?_ | refine aM ‹_› ?_ | refine am ‹_› ac rfl ?_ | refine am ‹_› ak rfl ?_ | refine a7 ‹_› ac ?_ | refine a7 ‹_› ak ?_ | refine aJ ac ?_ | refine aJ ak ?_ | refine aE ‹_› rfl ?_ | refine aL ‹_› ac rfl rfl fun _ _ => ?_ | refine aL ‹_› ak rfl rfl fun _ _ => ?_ | refine bZ ‹_› rfl rfl fun _ _ => ?_ | refine dZ ?_ | refine j8 ‹_› fun _ _ _ => ?_ | refine aT ?_ | refine aD ‹_› ‹_› rfl ?_ | refine bn ‹_› ‹_› rfl ?_ | refine cm ?_)
 refine af (by assumption) (cV 8 s 0) fun _ _ _ => ?_
 repeat (first | refine aH ‹_› fun _ _ _ => ?_ | refine aO ‹_› fun _ _ _ => ?_ | refine bR ‹_› fun _ _ _ => ?_ | refine aM ‹_› ?_ | refine am ‹_› ac rfl ?_ | refine am ‹_› ak rfl ?_ | refine a7 ‹_› ac ?_ | refine a7 ‹_› ak ?_ | refine aJ ac ?_ | refine aJ ak ?_ | refine aE ‹_› rfl ?_ | refine aL ‹_› ac rfl rfl fun _ _ => ?_ | refine aL ‹_› ak rfl rfl fun _ _ => ?_ | refine bZ ‹_› rfl rfl fun _ _ => ?_ | refine dZ ?_ | refine j8 ‹_› fun _ _ _ => ?_ | refine aT ?_ | refine aD ‹_› ‹_› rfl ?_ | refine bn ‹_› ‹_› rfl ?_ | refine cm ?_)
 refine af (by assumption) (yR m μ who (8, s, 0) 0 1 (by omega)) fun _ _ _ => ?_
 exact aq ⟨(), rfl, ae.to (by assumption)⟩
theorem Ju (hE : μ.N < 1099511627000) : Sp fZ [vp t, vi who, vi s] (tab t m sh sl * bk m μ) (fun _ : Unit => .tuple #[]) (fun _ => tab t m sh sl * bk m ((μ.acc who 2 (8, s, 0)).put (8, s, 0) 0)) := by
 refine av fun R H h => ?_
 refine aw (fun r => pH _ _ _ H) ?_
 unfold tab at h ⊢
 repeat (first | refine aH ‹_› fun _ _ _ => ?_ | refine aO ‹_› fun _ _ _ => ?_ | refine bR ‹_› fun _ _ _ => ?_ | refine aM ‹_› ?_ | refine am ‹_› ac rfl ?_ | refine am ‹_› ak rfl ?_ | refine a7 ‹_› ac ?_ | refine a7 ‹_› ak ?_ | refine aJ ac ?_ | refine aJ ak ?_ | refine aE ‹_› rfl ?_ | refine aL ‹_› ac rfl rfl fun _ _ => ?_ | refine aL ‹_› ak rfl rfl fun _ _ => ?_ | refine bZ ‹_› rfl rfl fun _ _ => ?_ | refine dZ ?_ | refine j8 ‹_› fun _ _ _ => ?_ | refine aT ?_ | refine aD ‹_› ‹_› rfl ?_ | refine bn ‹_› ‹_› rfl ?_ | refine cm ?_)
 refine af (by assumption) (cV 8 s 0) fun _ _ _ => ?_
 repeat (first | refine aH ‹_› fun _ _ _ => ?_ | refine aO ‹_› fun _ _ _ => ?_ | refine bR ‹_› fun _ _ _ => ?_ | refine aM ‹_› ?_ | refine am ‹_› ac rfl ?_ | refine am ‹_› ak rfl ?_ | refine a7 ‹_› ac ?_ | refine a7 ‹_› ak ?_ | refine aJ ac ?_ | refine aJ ak ?_ | refine aE ‹_› rfl ?_ | refine aL ‹_› ac rfl rfl fun _ _ => ?_ | refine aL ‹_› ak rfl rfl fun _ _ => ?_ | refine bZ ‹_› rfl rfl fun _ _ => ?_ | refine dZ ?_ | refine j8 ‹_› fun _ _ _ => ?_ | refine aT ?_ | refine aD ‹_› ‹_› rfl ?_ | refine bn ‹_› ‹_› rfl ?_ | refine cm ?_)
 refine af (by assumption) (t6 m μ who (8, s, 0) 0 (by omega)) fun _ _ _ => ?_
 exact aq ⟨(), rfl, ae.to (by assumption)⟩
def kM (v : Nat) : Value := if v = 0 then .tuple #[vi 0, vi 0, vb false] else .tuple #[vi ((v / 4294967296 : Nat) - 1), vi (v % 4294967296 : Nat), vb true]
theorem GR (hE : μ.N < 1099511627000) (hV : μ.V (10, s, i) < 18446744073709551616) :
 Sp f2 [vp t, vi who, vi s, vi i] (tab t m sh sl * bj m μ) (fun _ : Unit => kM (μ.V (10, s, i))) (fun _ => tab t m sh sl * bj m (μ.acc who 1 (10, s, i))) := by
 refine av fun R H h => ?_
 refine aw (fun r => pJ _ _ _ _ H) ?_
 unfold tab at h ⊢
 repeat (first | refine aH ‹_› fun _ _ _ => ?_ | refine aO ‹_› fun _ _ _ => ?_ | refine bR ‹_› fun _ _ _ => ?_ | refine aM ‹_› ?_ | refine am ‹_› ac rfl ?_ | refine am ‹_› ak rfl ?_ | refine a7 ‹_› ac ?_ | refine a7 ‹_› ak ?_ | refine aJ ac ?_ | refine aJ ak ?_ | refine aE ‹_› rfl ?_ | refine aL ‹_› ac rfl rfl fun _ _ => ?_ | refine aL ‹_› ak rfl rfl fun _ _ => ?_ | refine bZ ‹_› rfl rfl fun _ _ => ?_ | refine dZ ?_ | refine j8 ‹_› fun _ _ _ => ?_ | refine aT ?_ | refine aD ‹_› ‹_› rfl ?_ | refine bn ‹_› ‹_› rfl ?_ | refine cm ?_)
 refine af (by assumption) (zq s i) fun _ _ _ => ?_
 repeat (first | refine aH ‹_› fun _ _ _ => ?_ | refine aO ‹_› fun _ _ _ => ?_ | refine bR ‹_› fun _ _ _ => ?_ | refine aM ‹_› ?_ | refine am ‹_› ac rfl ?_ | refine am ‹_› ak rfl ?_ | refine a7 ‹_› ac ?_ | refine a7 ‹_› ak ?_ | refine aJ ac ?_ | refine aJ ak ?_ | refine aE ‹_› rfl ?_ | refine aL ‹_› ac rfl rfl fun _ _ => ?_ | refine aL ‹_› ak rfl rfl fun _ _ => ?_ | refine bZ ‹_› rfl rfl fun _ _ => ?_ | refine dZ ?_ | refine j8 ‹_› fun _ _ _ => ?_ | refine aT ?_ | refine aD ‹_› ‹_› rfl ?_ | refine bn ‹_› ‹_› rfl ?_ | refine cm ?_)
 refine af (by assumption) (yC m μ who (10, s, i) (by omega)) fun _ _ _ => ?_
 refine aa (Yx (b := 0)) ?_
 refine ca (fun hc => ?_) (fun hc => ?_)
 ·have hc : μ.V (10, s, i) = 0 := by simpa using hc
  refine aq ⟨(), by rw [kM, if_pos hc], ae.to (by assumption)⟩
 ·have hc : ¬ μ.V (10, s, i) = 0 := by simpa using hc
  refine aa (abP) ?_
  refine aa (fC (by omega)) ?_
  refine aa (a8 (by omega) (by omega)) ?_
  refine aa (aa3 hV) ?_
  refine aa (fC (by omega)) ?_
  refine aq ⟨(), by rw [kM, if_neg hc], ae.to (by assumption)⟩
theorem PT (hE : μ.N < 1099511627000) (hV : μ.V (10, s, i) < 18446744073709551616) :
 Sp io [vp t, vi who, vi s, vi i] (tab t m sh sl * bk m μ) (fun _ : Unit => kM (μ.V (10, s, i))) (fun _ => tab t m sh sl * bk m (μ.acc who 1 (10, s, i))) := by
 refine av fun R H h => ?_
 refine aw (fun r => sM _ _ _ _ H) ?_
 unfold tab at h ⊢
 repeat (first | refine aH ‹_› fun _ _ _ => ?_ | refine aO ‹_› fun _ _ _ => ?_ | refine bR ‹_› fun _ _ _ => ?_ | refine aM ‹_› ?_ | refine am ‹_› ac rfl ?_ | refine am ‹_› ak rfl ?_ | refine a7 ‹_› ac ?_ | refine a7 ‹_› ak ?_ | refine aJ ac ?_ | refine aJ ak ?_ | refine aE ‹_› rfl ?_ | refine aL ‹_› ac rfl rfl fun _ _ => ?_ | refine aL ‹_› ak rfl rfl fun _ _ => ?_ | refine bZ ‹_› rfl rfl fun _ _ => ?_ | refine dZ ?_ | refine j8 ‹_› fun _ _ _ => ?_ | refine aT ?_ | refine aD ‹_› ‹_› rfl ?_ | refine bn ‹_› ‹_› rfl ?_ | refine cm ?_)
 refine af (by assumption) (cV 10 s i) fun _ _ _ => ?_
 repeat (first | refine aH ‹_› fun _ _ _ => ?_ | refine aO ‹_› fun _ _ _ => ?_ | refine bR ‹_› fun _ _ _ => ?_ | refine aM ‹_› ?_ | refine am ‹_› ac rfl ?_ | refine am ‹_› ak rfl ?_ | refine a7 ‹_› ac ?_ | refine a7 ‹_› ak ?_ | refine aJ ac ?_ | refine aJ ak ?_ | refine aE ‹_› rfl ?_ | refine aL ‹_› ac rfl rfl fun _ _ => ?_ | refine aL ‹_› ak rfl rfl fun _ _ => ?_ | refine bZ ‹_› rfl rfl fun _ _ => ?_ | refine dZ ?_ | refine j8 ‹_› fun _ _ _ => ?_ | refine aT ?_ | refine aD ‹_› ‹_› rfl ?_ | refine bn ‹_› ‹_› rfl ?_ | refine cm ?_)
 refine af (by assumption) (ow m μ who (10, s, i) (by omega)) fun _ _ _ => ?_
 refine aa (Yx (b := 0)) ?_
 refine ca (fun hc => ?_) (fun hc => ?_)
 ·have hc : μ.V (10, s, i) = 0 := by simpa using hc
  refine aq ⟨(), by rw [kM, if_pos hc], ae.to (by assumption)⟩
 ·have hc : ¬ μ.V (10, s, i) = 0 := by simpa using hc
  refine aa (abI hV) ?_
  refine aa (fC (by omega)) ?_
  refine aa (a8 (by omega) (by omega)) ?_
  refine aa (abK) ?_
  refine aa (fC (by omega)) ?_
  refine aq ⟨(), by rw [kM, if_neg hc], ae.to (by assumption)⟩
end
def qp (v n : Int) : Int := (v % 18446744073709551616) % n
theorem kA {v n : Int} (h : 0 < n) : 0 ≤ qp v n ∧ qp v n < n := ⟨Int.emod_nonneg _ (by omega), Int.emod_lt_of_pos _ h⟩
theorem ol (v n : Int) (h0 : 0 < n) (h1 : n < 9223372036854775808) : Sp dm [vi v, vi n] emp (fun _ : Unit => vi (qp v n)) (fun _ => emp) := by
 refine av fun R H h => ?_
 refine aw (fun r => F8 _ _ H) ?_
 have e1 : bz (some .u64) (vi v) = some (vu (v % 18446744073709551616).toNat) := by
  simp only [bz]
  rw [zD]
  have : 0 ≤ v % 18446744073709551616 := Int.emod_nonneg _ (by omega)
  show _ = some (Value.int .u64 (((v % 18446744073709551616).toNat : Nat) : Int))
  rw [Int.toNat_of_nonneg this]
 refine aa (e1) ?_
 refine aa (cU (by omega) (by omega)) ?_
 refine aa (g6 (by omega)) ?_
 have hm := kA (v := v) h0
 have e2 : (((v % 18446744073709551616).toNat % n.toNat : Nat) : Int) = qp v n := by
  have : 0 ≤ v % 18446744073709551616 := Int.emod_nonneg _ (by omega)
  unfold qp
  rw [Int.natCast_emod, Int.toNat_of_nonneg this, Int.toNat_of_nonneg (by omega)]
 refine aa (fC (by omega)) ?_
 rw [e2]
 exact aq ⟨(), rfl, ae.to (by assumption)⟩
structure fO where
 sh : Int
 sl : Int
 wk : Int
 wd : Int
 un : Nat
abbrev fO.cells (c : fO) : List Value := [vi c.sh, vi c.sl, vi c.wk, vi c.wd, vu c.un]
structure Cl where
 op : Int
 flow : Int
 a : Int
 b : Int
abbrev Cl.cells (x : Cl) : List Value := [vi x.op, vi x.flow, vi x.a, vi x.b]
instance : Enc Cl.cells 4 := ⟨fun _ => rfl, fun _ => rfl, by omega⟩
structure Sv where
 a : Option Addr
 n : Nat
 c : Nat
abbrev Sv.v (s : Sv) : Value := .slice s.a s.n s.c
abbrev acB (s : Sv) : List Value := [.slice s.a s.n s.c]
instance : Enc acB 1 := ⟨fun _ => rfl, fun _ => rfl, by omega⟩
def cI (c : fO) : Bool := decide (1 ≤ c.sh ∧ c.sh ≤ 4 ∧ 1 ≤ c.sl ∧ c.sl ≤ 4 ∧ 1 ≤ c.wk ∧ c.wk ≤ 6 ∧ 0 ≤ c.wd ∧ c.wd ≤ 40 ∧ 1 ≤ c.un ∧ c.un ≤ 4611686018427387904)
theorem bT {c : fO} : cI c = true ↔ (1 ≤ c.sh ∧ c.sh ≤ 4 ∧ 1 ≤ c.sl ∧ c.sl ≤ 4 ∧ 1 ≤ c.wk ∧ c.wk ≤ 6 ∧ 0 ≤ c.wd ∧ c.wd ≤ 40 ∧ 1 ≤ c.un ∧ c.un ≤ 4611686018427387904) := by unfold cI; exact decide_eq_true_iff
theorem jx {c : fO} (h : ¬ (1 ≤ c.sh ∧ c.sh ≤ 4 ∧ 1 ≤ c.sl ∧ c.sl ≤ 4 ∧ 1 ≤ c.wk ∧ c.wk ≤ 6 ∧ 0 ≤ c.wd ∧ c.wd ≤ 40 ∧ 1 ≤ c.un ∧ c.un ≤ 4611686018427387904)) : cI c = false := by unfold cI; exact decide_eq_false h
theorem eK (x a b : Int) : Sp dB [vi x, vi a, vi b] emp (fun _ : Unit => vb (decide (a ≤ x ∧ x ≤ b))) (fun _ => emp) := by
 refine av fun R H h => ?_
 refine aw (fun r => vf _ _ _ H) ?_
 by_cases h1 : a ≤ x
 ·refine aa (uy h1) ?_
  with_reducible repeat refine gg ?_
  by_cases h2 : x ≤ b
  ·refine aa (Mz h2) ?_
   with_reducible repeat refine gg ?_
   rw [decide_eq_true ⟨h1, h2⟩]
   exact aq ⟨(), rfl, ae.to (by assumption)⟩
  ·refine aa (My h2) ?_
   with_reducible repeat refine gg ?_
   rw [decide_eq_false (fun h => h2 h.2)]
   exact aq ⟨(), rfl, ae.to (by assumption)⟩
 ·refine aa (pQ h1) ?_
  with_reducible repeat refine gg ?_
  rw [decide_eq_false (fun h => h1 h.1)]
  exact aq ⟨(), rfl, ae.to (by assumption)⟩
theorem FU (c : fO) : Sp kX [.agg (fO.cells c).toArray] emp (fun _ : Unit => vb (cI c)) (fun _ => emp) := by
 refine av fun R H h => ?_
 refine aw (fun r => yA _ H) ?_
 refine aH h fun b H1 h1 => ?_
 refine am h1 ak rfl ?_
 refine af h1 (eK c.sh 1 4) fun _ K0 k0 => ?_
 by_cases g0 : (1 : Int) ≤ c.sh ∧ c.sh ≤ 4
 case neg =>
  rw [decide_eq_false g0]
  with_reducible repeat refine gg ?_
  rw [jx (by omega)]
  exact aq ⟨(), rfl, ae.to (by assumption)⟩
 rw [decide_eq_true g0]
 with_reducible repeat refine gg ?_
 refine am k0 ak rfl ?_
 with_reducible repeat refine gg ?_
 refine af k0 (eK c.sl 1 4) fun _ K1 k1 => ?_
 by_cases g1 : (1 : Int) ≤ c.sl ∧ c.sl ≤ 4
 case neg =>
  rw [decide_eq_false g1]
  with_reducible repeat refine gg ?_
  rw [jx (by omega)]
  exact aq ⟨(), rfl, ae.to (by assumption)⟩
 rw [decide_eq_true g1]
 with_reducible repeat refine gg ?_
 refine am k1 ak rfl ?_
 with_reducible repeat refine gg ?_
 refine af k1 (eK c.wk 1 6) fun _ K2 k2 => ?_
 by_cases g2 : (1 : Int) ≤ c.wk ∧ c.wk ≤ 6
 case neg =>
  rw [decide_eq_false g2]
  with_reducible repeat refine gg ?_
  rw [jx (by omega)]
  exact aq ⟨(), rfl, ae.to (by assumption)⟩
 rw [decide_eq_true g2]
 with_reducible repeat refine gg ?_
 refine am k2 ak rfl ?_
 with_reducible repeat refine gg ?_
 refine af k2 (eK c.wd 0 40) fun _ K3 k3 => ?_
 by_cases g3 : (0 : Int) ≤ c.wd ∧ c.wd ≤ 40
 case neg =>
  rw [decide_eq_false g3]
  with_reducible repeat refine gg ?_
  rw [jx (by omega)]
  exact aq ⟨(), rfl, ae.to (by assumption)⟩
 rw [decide_eq_true g3]
 with_reducible repeat refine gg ?_
 refine am k3 ak rfl ?_
 with_reducible repeat refine gg ?_
 by_cases g4 : (1 : Int) ≤ c.un
 case neg =>
  refine aa (pQ g4) ?_
  with_reducible repeat refine gg ?_
  rw [jx (by omega)]
  exact aq ⟨(), rfl, ae.to (by assumption)⟩
 refine aa (uy g4) ?_
 with_reducible repeat refine gg ?_
 refine am k3 ak rfl ?_
 with_reducible repeat refine gg ?_
 by_cases g5 : (c.un : Int) ≤ 4611686018427387904
 case neg =>
  refine aa (My g5) ?_
  with_reducible repeat refine gg ?_
  rw [jx (by omega)]
  exact aq ⟨(), rfl, ae.to (by assumption)⟩
 refine aa (Mz g5) ?_
 with_reducible repeat refine gg ?_
 rw [bT.2 (by omega)]
 exact aq ⟨(), rfl, ae.to (by assumption)⟩
theorem zC (w : Int) : Sp mq [vi w] emp (fun x : Int => vi x) (fun _ => emp) := by
 refine av fun R H h => ?_
 refine aw (fun r => Ab _ H) ?_
 refine aa (i3) ?_
 refine aa (i4) ?_
 exact aq ⟨_, rfl, h⟩
theorem Q2 (w : Int) : Sp oa [vi w] emp (fun b : Nat => vp b) (fun _ => emp) := by
 refine av fun R H h => ?_
 refine aw (fun r => Ee _ H) ?_
 refine af h (zC w) fun x H1 h1 => ?_
 refine bR h1 fun mb H2 h2 => ?_
 refine G0 rfl ?_
 refine aH h2 fun b H3 h3 => ?_
 exact aq ⟨b, rfl, h3.to⟩
theorem Uo : Sp qr [] emp (fun b : Nat => vp b) (fun _ => emp) := by
 refine av fun R H h => ?_
 refine aw (fun r => FH H) ?_
 refine bR h fun mb H2 h2 => ?_
 refine dZ ?_
 refine aH h2 fun b H3 h3 => ?_
 exact aq ⟨b, rfl, h3.to⟩
theorem QH (w : Int) : Sp n8 [vi w] emp (fun b : Nat => vp b) (fun _ => emp) := by
 refine av fun R H h => ?_
 refine aw (fun r => D4 _ H) ?_
 refine af h (Q2 w) fun x H1 h1 => ?_
 refine af h1 Uo fun y H2 h2 => ?_
 refine dZ ?_
 refine aH h2 fun b H3 h3 => ?_
 exact aq ⟨b, rfl, h3.to⟩
theorem Vd (m : Nat) (s : Int) : Sp qv [vp m, vi s] emp (fun b : Nat => vp b) (fun _ => emp) := by
 refine av fun R H h => ?_
 refine aw (fun r => Gb _ _ H) ?_
 refine aa (i3) ?_
 refine aa (i4) ?_
 refine bR h fun mb H2 h2 => ?_
 refine bR h2 fun mc H3 h3 => ?_
 refine dZ ?_
 refine aH h3 fun b H4 h4 => ?_
 exact aq ⟨b, rfl, h4.to⟩
structure Lf where
 k : Int
 i : Int
 b : Bool
abbrev Lf.cells (x : Lf) : List Value := [vw x.k, vi x.i, vb x.b]
instance : Enc Lf.cells 3 := ⟨fun _ => rfl, fun _ => rfl, by omega⟩
def zr (t : Nat) (lv : Value) (s : Nat) (nv : Value) (m : List Int) : SP := blk t (.cells false [lv, vi s, nv]) * ts 1 jA nv m
theorem Wf (n : Int) : Sp qy [vi n] emp (fun b : Nat => vp b) (fun _ => emp) := by
 refine av fun R H h => ?_
 refine aw (fun r => GU _ H) ?_
 refine aa (i3) ?_
 refine aa (i4) ?_
 obtain ⟨k, hk⟩ : ∃ k : Nat, min (max n 1) 16 = k := ⟨(min (max n 1) 16).toNat, by omega⟩
 rw [hk]
 have hk1 : 1 ≤ k := by omega
 have hk16 : k ≤ 16 := by omega
 refine KA (enc := Lf.cells) (⟨0, 0, false⟩ : Lf) h rfl (by unfold cC; omega) (by omega) fun lb H1 h1 => ?_
 refine dZ ?_
 refine aH h1 fun t H2 h2 => ?_
 refine ag (zt _ _ _ H2) ?_
 -- the nodes
 have nodes : ∀ (s : Nat) (H : AH), s ≤ 32 → ae (zr t (vs lb k 3) s (.slice none 0 0) [] * R) H → wp (oF (.pointer none) (vp t) H) fun v' H' => ∃ b : Nat, v' = vp b ∧ ae (emp * R) H' := by
  intro s H hs h
  refine ag (zu _ _ H) ?_
  unfold zr at h
  refine am h ac rfl ?_
  refine aa (jh (by omega) (by omega)) ?_
  refine ag (zw _ _ _ _ H) ?_
  have loop : ∀ (d i : Nat) (nv : Value) (m : List Int) (H : AH), i + d = 2 * s → m.length = i → ae (blk t (.cells false [vs lb k 3, vi s, nv]) * ts 1 jA nv m * R) H → wp (kO (.pointer none) (vp t) (vi (2 * (s : Int))) (vi i) H) fun v' H' => ∃ b : Nat, v' = vp b ∧ ae (emp * R) H' := by
   intro d
   induction d with
   | zero =>
    intro i nv m H hi hm h
    refine ag (oG _ _ _ _ H) ?_
    refine aa (bI (by omega)) ?_
    with_reducible repeat refine gg ?_
    refine ag (ue _ _ H) ?_
    refine ag (zv _ _ H) ?_
    exact aq ⟨t, rfl, h.to⟩
   | succ d ih =>
    intro i nv m H hi hm h
    refine ag (oG _ _ _ _ H) ?_
    refine aa (b4 (by omega)) ?_
    with_reducible repeat refine gg ?_
    refine ag (zx _ _ _ _ H) ?_
    refine am h ac rfl ?_
    refine j8 h fun b0 H3 h3 => ?_
    refine gQ (-1 : Int) h3 rfl ?_ (by omega) fun a c H4 h4 => ?_
    ·unfold cC; omega
    refine aL h4 ac rfl rfl fun H5 h5 => ?_
    refine ag (zy _ _ _ _ H5) ?_
    refine aa (aB (by omega) (by omega)) ?_
    refine ih (i + 1) (.slice a (m.length + 1) c) (m ++ [-1]) H5 (by omega) (by simp; omega) h5.to
  exact loop (2 * s) 0 (.slice none 0 0) [] H (by omega) rfl h
 -- the size
 have size : ∀ (d s : Nat) (H : AH), 16 ≤ s + d → 1 ≤ s → s ≤ 32 → ae (zr t (vs lb k 3) s (.slice none 0 0) [] * R) H → wp (jg (vi k) (.pointer none) (vp t) H) fun v' H' => ∃ b : Nat, v' = vp b ∧ ae (emp * R) H' := by
  intro d
  induction d with
  | zero =>
   intro s H hd hs1 hs h
   refine ag (mZ _ _ _ H) ?_
   have h' := h
   unfold zr at h'
   refine am h' ac rfl ?_
   refine aa (bI (by omega)) ?_
   with_reducible repeat refine gg ?_
   refine ag (kN _ _ H) ?_
   exact nodes s H hs h
  | succ d ih =>
   intro s H hd hs1 hs h
   refine ag (mZ _ _ _ H) ?_
   have h' := h
   unfold zr at h'
   refine am h' ac rfl ?_
   by_cases hlt : (s : Int) < k
   ·refine aa (b4 hlt) ?_
    with_reducible repeat refine gg ?_
    refine ag (vC _ _ _ H) ?_
    refine am h' ac rfl ?_
    refine aa (jh (by omega) (by omega)) ?_
    refine aL h' ac rfl rfl fun H3 h3 => ?_
    refine ih (s * 2) H3 (by omega) (by omega) (by omega) ?_
    unfold zr
    rw [show (((s * 2 : Nat) : Int)) = (s : Int) * 2 from by omega]
    exact h3.to
   ·refine aa (bI hlt) ?_
    with_reducible repeat refine gg ?_
    refine ag (kN _ _ H) ?_
    exact nodes s H hs h
 refine size 16 1 H2 (by omega) (by omega) (by omega) ?_
 unfold zr
 have h3 := eH 1 jA h2
 exact h3.to
abbrev mH (b : Nat) : List Value := [vp b]
instance : Enc mH 1 := ⟨fun _ => rfl, fun _ => rfl, by omega⟩
theorem PQ (n w : Int) : Sp n6 [vi n, vi w] emp (fun b : Nat => vp b) (fun _ => emp) := by
 refine av fun R H h => ?_
 refine aw (fun r => Dk _ _ H) ?_
 refine aa (i3) ?_
 refine aa (i4) ?_
 obtain ⟨k, hk⟩ : ∃ k : Nat, min (max n 1) 16 = k := ⟨(min (max n 1) 16).toNat, by omega⟩
 rw [hk]
 have hk16 : k ≤ 16 := by omega
 refine af h (Wf k) fun tb H1 h1 => ?_
 refine dZ ?_
 refine aH h1 fun q H2 h2 => ?_
 refine ag (vh _ _ _ _ H2) ?_
 refine ag (vk _ _ _ _ _ H2) ?_
 have loop : ∀ (d i : Nat) (nv : Value) (m : List Nat) (H : AH), i + d = k → m.length = i → ae (blk q (.cells false [nv, vp tb]) * ts 1 mH nv m * R) H → wp (je (vi w) (.pointer none) (vp q) (vi k) (vi i) H) fun v' H' => ∃ b : Nat, v' = vp b ∧ ae (emp * R) H' := by
  intro d
  induction d with
  | zero =>
   intro i nv m H hi hm h
   refine ag (mT _ _ _ _ _ H) ?_
   refine aa (bI (by omega)) ?_
   with_reducible repeat refine gg ?_
   refine ag (sB _ _ H) ?_
   refine ag (vj _ _ H) ?_
   exact aq ⟨q, rfl, h.to⟩
  | succ d ih =>
   intro i nv m H hi hm h
   refine ag (mT _ _ _ _ _ H) ?_
   refine aa (b4 (by omega)) ?_
   with_reducible repeat refine gg ?_
   refine ag (vl _ _ _ _ _ H) ?_
   refine aJ ac ?_
   refine aE h rfl ?_
   refine af h (QH w) fun sb H3 h3 => ?_
   refine aD h3 h rfl ?_
   refine j8 h3 fun b0 H4 h4 => ?_
   refine gQ (sb : Nat) h4 rfl ?_ (by omega) fun a c H5 h5 => ?_
   ·unfold cC; omega
   refine aL h5 ac rfl rfl fun H6 h6 => ?_
   refine ag (vm _ _ _ _ _ H6) ?_
   refine aa (aB (by omega) (by omega)) ?_
   exact ih (i + 1) (.slice a (m.length + 1) c) (m ++ [sb]) H6 (by omega) (by simp; omega) h6.to
 refine loop k 0 (.slice none 0 0) [] H2 (by omega) rfl ?_
 have h3 := eH 1 mH h2
 exact h3.to
theorem RH (c : fO) : Sp qq [.agg (fO.cells c).toArray] emp (fun b : Nat => vp b) (fun _ => emp) := by
 refine av fun R H h => ?_
 refine aw (fun r => EB _ H) ?_
 refine aH h fun cb H1 h1 => ?_
 refine am h1 ak rfl ?_
 refine am h1 ak rfl ?_
 refine af h1 (PQ c.sh c.wd) fun q H2 h2 => ?_
 refine bR h2 fun mb H3 h3 => ?_
 refine bR h3 fun mc H4 h4 => ?_
 refine dZ ?_
 refine aH h4 fun b H5 h5 => ?_
 exact aq ⟨b, rfl, h5.to⟩
theorem JO {cl : TCls} {w : Nat} (n : Nat) (h : n ≠ 0) : aj cl .rem (vu w) (.int .u64 (n : Int)) = some (vu (w % n)) := g6 h
theorem wN (b b2 : Nat) (c : fO) (u : Nat) (hu : 1 ≤ u ∧ u ≤ 4611686018427387904) {R : SP} {H : AH} (h : ae (blk b2 (.cells false [vi 0, vi 0, vi 0, vi 0, vw 0]) * (blk b (.cells false (fO.cells c)) * R)) H) :
 wp (gJ (vp b) (vp b2) (vu u) H) fun v' H' => ∃ c' : fO, v' = .agg (fO.cells c').toArray ∧ ae (pu (cI c' = true) * R) H' := by
 refine ag (sA _ _ _ H) ?_
 refine am h ak rfl ?_
 refine af h (ol c.sh 4 (by omega) (by omega)) fun _ H1 h1 => ?_
 have m1 := kA (v := c.sh) (n := 4) (by omega)
 refine aa (aB (by omega) (by omega)) ?_
 refine aJ ak ?_
 refine aE h1 rfl ?_
 refine aD h h1 rfl ?_
 refine af h1 (ol c.sl 4 (by omega) (by omega)) fun _ H2 h2 => ?_
 have m2 := kA (v := c.sl) (n := 4) (by omega)
 refine aa (aB (by omega) (by omega)) ?_
 refine aJ ak ?_
 refine aE h2 rfl ?_
 refine aD h h2 rfl ?_
 refine aD h1 h2 rfl ?_
 refine af h2 (ol c.wk 6 (by omega) (by omega)) fun _ H3 h3 => ?_
 have m3 := kA (v := c.wk) (n := 6) (by omega)
 refine aa (aB (by omega) (by omega)) ?_
 refine aJ ak ?_
 refine aE h3 rfl ?_
 refine aD h h3 rfl ?_
 refine aD h1 h3 rfl ?_
 refine aD h2 h3 rfl ?_
 refine af h3 (ol c.wd 12 (by omega) (by omega)) fun _ H4 h4 => ?_
 have m4 := kA (v := c.wd) (n := 12) (by omega)
 refine dZ ?_
 refine bZ h4 rfl rfl fun H5 h5 => ?_
 refine aM h5 ?_
 refine aq ⟨⟨1 + qp c.sh 4, 1 + qp c.sl 4, 1 + qp c.wk 6, qp c.wd 12, u⟩, rfl, ?_⟩
 exact ae.pu.2 ⟨bT.2 (by dsimp only; omega), h5.to⟩
theorem F9 (c : fO) : Sp kY [.agg (fO.cells c).toArray] emp (fun c' : fO => .agg (fO.cells c').toArray) (fun c' => pu (cI c' = true)) := by
 refine av fun R H h => ?_
 rw [oU] at h
 refine aw (fun r => yG _ H) ?_
 refine aH h fun b H1 h1 => ?_
 refine aO h1 fun b2 H2 h2 => ?_
 refine am h2 ak rfl ?_
 refine aa (JO 5000 (by omega)) ?_
 refine aa (dW (a := 1) (by omega)) ?_
 refine ag (sy _ _ _ H2) ?_
 refine am h2 ak rfl ?_
 refine aa (JO 4 (by omega)) ?_
 refine aa (kg) ?_
 refine ca (fun _ => ?_) (fun _ => ?_)
 ·refine am h2 ak rfl ?_
  refine aa (JO 4611686018427387904 (by omega)) ?_
  have hm := Nat.mod_lt c.un (show 4611686018427387904 > 0 by omega)
  generalize c.un % 4611686018427387904 = u at hm
  refine aa (dW (a := 1) (by omega)) ?_
  exact wN b b2 c _ (by omega) h2
 ·have hm := Nat.mod_lt c.un (show 5000 > 0 by omega)
  exact wN b b2 c _ (by omega) h2
section
variable {R : SP} {H : AH}
end
structure Pk where
 flow : Int
 len : Int
 mark : Int
abbrev Pk.cells (x : Pk) : List Value := [vi x.flow, vi x.len, vi x.mark]
instance : Enc Pk.cells 3 := ⟨fun _ => rfl, fun _ => rfl, by omega⟩
structure Ob where
 flow : Int
 most : Int
 r : Nat
structure Pt where
 step : Int
 who : Int
 place : Int
 e : Int
abbrev gK (e : Int) : List Value := [vi e, .slice none 0 0, vi 0, vw 0]
abbrev Pt.cells (x : Pt) : List Value := [vi x.step, vi x.who, vi x.place, vi x.e, .slice none 0 0, vi 0, vw 0]
instance : Enc Pt.cells 7 := ⟨fun _ => rfl, fun _ => rfl, by omega⟩
structure aX where
 c : fO
 μ : Mu
 obs : List (Ob × List Pk)
 nx : Int → Option Nat
 places : Int → Option Int
 pts : List Pt
def ew (n : Int) : Nat := (min (max n 1) 8).toNat
theorem tL (n : Int) : 1 ≤ ew n ∧ ew n ≤ 8 ∧ (ew n : Int) = min (max n 1) 8 := by unfold ew; omega
abbrev PN : Pk := ⟨0, 0, 0⟩
abbrev Ha (k : Int) : Value := vi k
instance : KeyE .int Ha where
 eq a b := by
  simp only [iL, Ha, if_true]
  congr 1
 ok a := rfl
def bW (m i rp : Nat) (cs : List Pk) : SP := ex fun cv : Value => blk rp (.cells false [vp m, vi i, cv]) * ts 3 Pk.cells cv cs
def j5 (m : Nat) : Nat → List (Nat × List Pk) → SP
 | _, [] => emp
 | i, p :: ps => bW m i p.1 p.2 * j5 m (i + 1) ps
theorem Gr (m : Nat) : ∀ (ps : List (Nat × List Pk)) (i : Nat) (q : Nat × List Pk), j5 m i (ps ++ [q]) = j5 m i ps * bW m (i + ps.length) q.1 q.2 := by
 intro ps
 induction ps with
 | nil => intro i q; show bW m i q.1 q.2 * emp = emp * bW m (i + 0) q.1 q.2; rw [gN, oU]; rfl
 | cons p ps ih =>
  intro i q
  show bW m i p.1 p.2 * j5 m (i + 1) (ps ++ [q]) = bW m i p.1 p.2 * j5 m (i + 1) ps * _
  rw [ih, ap, List.length_cons, show i + 1 + ps.length = i + (ps.length + 1) from by omega]
abbrev EK (x : Ob × Nat) : List Value := [vi x.1.flow, vi x.1.most, vu x.1.r, vp x.2]
instance : Enc EK 4 := ⟨fun _ => rfl, fun _ => rfl, by omega⟩
structure PIds where
 m : Nat
 ib : Nat
 tb : Nat
 po : Nat
 co : Nat
 ov : Value
 pm : Nat
 pv : Value
 nm : Nat
 rp : List Nat
def i9 (ib m nm : Nat) (c : fO) (nx : Int → Option Nat) : SP :=
 blk ib (.cells false [vp m, vi c.sh, .map (some nm), .func (.func bd) #[vi 9] #[], .func (.func bd) #[vi 14] #[]]) * Rb Ha nm (fun k => (nx k).map fun n => vu n)
def aN (p : Nat) (g : PIds) (σ : aX) : SP :=
 blk p (.cells false [vp g.m, vp g.ib, vp g.tb, vp g.po, vp g.co, vi σ.c.sh, vi σ.c.sl, vi σ.c.wk, vi σ.c.wd, vu σ.c.un, g.ov, .map (some g.pm), g.pv]) *
 (bj g.m σ.μ * (i9 g.ib g.m g.nm σ.c σ.nx * (tab g.tb g.m σ.c.sh.toNat σ.c.sl.toNat * (ts 4 EK g.ov ((σ.obs.map fun x => x.1).zip g.rp) * (j5 g.m 0 (g.rp.zip (σ.obs.map fun x => x.2)) *
 (Rb Ha g.pm (fun k => (σ.places k).map fun n => vi n) * ts 7 Pt.cells g.pv σ.pts))))))
def d6 (p : Nat) (σ : aX) : SP := ex fun g : PIds => pu (g.rp.length = σ.obs.length) * aN p g σ
theorem kH {p : Nat} {σ : aX} {R : SP} {H : AH} (h : ae (d6 p σ * R) H) : ∃ g : PIds, g.rp.length = σ.obs.length ∧ ae (aN p g σ * R) H := by
 obtain ⟨g, h1⟩ := ae.ex.1 h
 rw [ap, ae.pu] at h1
 exact ⟨g, h1⟩
theorem mt {p : Nat} {σ : aX} {R : SP} {H : AH} (g : PIds) (hl : g.rp.length = σ.obs.length) (h : ae (aN p g σ * R) H) : ae (d6 p σ * R) H :=
 ae.ex.2 ⟨g, by rw [ap]; exact ae.pu.2 ⟨hl, h⟩⟩
abbrev aX.new (c : fO) : aX := ⟨c, ⟨fun _ => 0, [], 0⟩, [], fun _ => none, fun _ => none, []⟩
theorem UJ : Sp tM [] emp (fun b : Nat => vp b) (fun b => bj b ⟨fun _ => 0, [], 0⟩) := by
 refine av fun R H h => ?_
 refine aw (fun r => Jc H) ?_
 refine bR h fun mb H2 h2 => ?_
 refine dZ ?_
 refine aH h2 fun b H3 h3 => ?_
 refine aq ⟨b, rfl, ae.ex.2 ⟨(mb, .slice none 0 0, [], [], 0), ?_⟩⟩
 rw [ap, ae.pu]
 refine ⟨⟨.nil, fun _ => rfl, Nat.le_refl _⟩, ?_⟩
 have := Nr 5 h3
 show ae (blk b (.cells false [.map (some mb), .slice none 0 0]) * (blk mb (.map [] 0) * sl 5 (.slice none 0 0) 0 []) * R) H3
 exact this.to
theorem I4 (m : Nat) (c : fO) (hc : cI c = true) : Sp n3 [vp m, vi c.sh] emp (fun b : Nat => vp b) (fun b => ex fun nm : Nat => i9 b m nm c fun _ => none) := by
 have hc := bT.1 hc
 refine av fun R H h => ?_
 refine aw (fun r => C1 _ _ H) ?_
 refine aa (i3) ?_
 refine aa (i4) ?_
 rw [show min (max c.sh 1) 4 = c.sh from by omega]
 refine bR h fun mb H2 h2 => ?_
 refine dZ ?_
 refine aH h2 fun b H3 h3 => ?_
 refine aq ⟨b, rfl, ae.ex.2 ⟨mb, ?_⟩⟩
 unfold i9
 have h4 : ae (blk mb (.map [] 0) * (blk b (.cells false [vp m, vi c.sh, .map (some mb), .func (.func bd) #[vi 9] #[], .func (.func bd) #[vi 14] #[]]) * (emp * R))) H3 := h3.to
 have h5 := MD Ha h4
 show ae (blk b (.cells false [vp m, vi c.sh, .map (some mb), .func (.func bd) #[vi 9] #[], .func (.func bd) #[vi 14] #[]]) * Rb Ha mb (fun _ => none) * R) H3
 exact h5.to
theorem Ky (m : Nat) (c : fO) (hc : cI c = true) : Sp n9 [vp m, vi c.sh, vi c.sl] emp (fun b : Nat => vp b) (fun b => tab b m c.sh.toNat c.sl.toNat) := by
 have hc := bT.1 hc
 refine av fun R H h => ?_
 refine aw (fun r => D7 _ _ _ H) ?_
 refine aa (i3) ?_
 refine aa (i4) ?_
 refine aa (i3) ?_
 refine aa (i4) ?_
 rw [show min (max c.sh 1) 4 = ((c.sh.toNat : Nat) : Int) from by omega, show min (max c.sl 1) 4 = ((c.sl.toNat : Nat) : Int) from by omega]
 refine dZ ?_
 refine aH h fun b H3 h3 => ?_
 exact aq ⟨b, rfl, by unfold tab; exact h3.to⟩
theorem Jm (c : fO) (hc : cI c = true) : Sp n5 [.agg (fO.cells c).toArray] emp (fun b : Nat => .tuple #[vp b, vi 0]) (fun b => d6 b (aX.new c)) := by
 refine av fun R H h => ?_
 refine aw (fun r => Df _ H) ?_
 refine aH h fun cb H1 h1 => ?_
 refine aM h1 ?_
 refine af h1 (FU c) fun _ H2 h2 => ?_
 rw [hc]
 with_reducible repeat refine gg ?_
 rw [Bool.not_true]
 with_reducible repeat refine gg ?_
 refine af h2 UJ fun m H3 h3 => ?_
 refine am h3 ak rfl ?_
 refine af h3 (I4 m c hc) fun ib H4 h4 => ?_
 obtain ⟨nm, h4b⟩ := ae.ex.1 h4
 refine aJ ak ?_
 refine aE h4b rfl ?_
 refine aD h3 h4b rfl ?_
 refine aJ ak ?_
 refine aE h4b rfl ?_
 refine aD h3 h4b rfl ?_
 refine af h4b (Ky m c hc) fun tb H5 h5 => ?_
 refine aJ ak ?_
 refine aE h5 rfl ?_
 refine aD h3 h5 rfl ?_
 refine aD h4b h5 rfl ?_
 refine af h5 (Vd m c.wk) fun pb H6 h6 => ?_
 refine aM h6 ?_
 refine bn h3 h6 rfl ?_
 refine bn h4b h6 rfl ?_
 refine bn h5 h6 rfl ?_
 refine af h6 (RH c) fun kb H7 h7 => ?_
 refine aM h7 ?_
 refine bn h3 h7 rfl ?_
 refine bn h4b h7 rfl ?_
 refine bn h5 h7 rfl ?_
 refine bn h6 h7 rfl ?_
 refine bR h7 fun mb H8 h8 => ?_
 refine dZ ?_
 refine aH h8 fun b H9 h9 => ?_
 refine aq ⟨b, rfl, ?_⟩
 refine mt ⟨m, ib, tb, pb, kb, .slice none 0 0, mb, .slice none 0 0, nm, []⟩ rfl ?_
 have h10 := eH 4 EK (eH 7 Pt.cells h9)
 have h11 : ae (blk mb (.map [] 0) * (ts 4 EK (.slice none 0 0) [] * (ts 7 Pt.cells (.slice none 0 0) [] * (blk b (.cells false [vp m, vp ib, vp tb, vp pb, vp kb, vi c.sh, vi c.sl, vi c.wk, vi c.wd, vu c.un, .slice none 0 0, .map (some mb), .slice none 0 0]) * (bj m ⟨fun _ => 0, [], 0⟩ * (i9 ib m nm c (fun _ => none) * (tab tb m c.sh.toNat c.sl.toNat * (emp * R)))))))) H9 := h10.to
 have h12 := MD Ha h11
 show ae (blk b (.cells false [vp m, vp ib, vp tb, vp pb, vp kb, vi c.sh, vi c.sl, vi c.wk, vi c.wd, vu c.un, .slice none 0 0, .map (some mb), .slice none 0 0]) * (bj m ⟨fun _ => 0, [], 0⟩ * (i9 ib m nm c (fun _ => none) * (tab tb m c.sh.toNat c.sl.toNat * (ts 4 EK (.slice none 0 0) [] * (emp * (Rb Ha mb (fun _ => none) * ts 7 Pt.cells (.slice none 0 0) [])))))) * R) H9
 exact h12.to
section
variable (p : Nat) (σ : aX)
theorem Vx (m i : Nat) (most : Int) : Sp qx [vp m, vi i, vi most] emp (fun b : Nat => vp b) (fun b => bW m i b (List.replicate (ew most) PN)) := by
 obtain ⟨q1, q2, q3⟩ := tL most
 refine av fun R H h => ?_
 refine aw (fun r => Gq _ _ _ H) ?_
 refine aa (i3) ?_
 refine aa (i4) ?_
 rw [← q3]
 refine KA (enc := Pk.cells) PN h rfl (by unfold cC; omega) (by omega) fun cb H1 h1 => ?_
 refine dZ ?_
 refine aH h1 fun b H2 h2 => ?_
 refine aq ⟨b, rfl, ?_⟩
 unfold bW
 exact ae.ex.2 ⟨vs cb (ew most) 3, h2.to⟩
abbrev aX.make (σ : aX) (who : Int) (o : Ob) : aX := { σ with μ := σ.μ.acc who 6 (13, σ.obs.length, 0), obs := σ.obs ++ [(o, List.replicate (ew o.most) PN)] }
theorem Jl (who : Int) (o : Ob) (hE : σ.μ.N < 1099511627000) (ho : σ.obs.length < 1000000) : Sp fW [vp p, vi who, .agg (#[vi o.flow, vi o.most, vu o.r] : Array Value)] (d6 p σ) (fun _ : Unit => vi σ.obs.length) (fun _ => d6 p (σ.make who o)) := by
 refine av fun R H h => ?_
 obtain ⟨g, hg, h0⟩ := kH h
 have hz : ((σ.obs.map fun x => x.1).zip g.rp).length = σ.obs.length := by simp [hg]
 unfold aN at h0
 refine aw (fun r => pC _ _ _ H) ?_
 refine aH (l := [vi o.flow, vi o.most, vu o.r]) h0 fun ob H1 h1 => ?_
 refine am h1 ac rfl ?_
 refine mB (s := g.ov) h1 ?_
 rw [hz]
 refine am h1 ac rfl ?_
 refine dZ ?_
 refine af h1 ((tK g.m σ.μ who (13, σ.obs.length, 0) (by omega)).imp fun _ R H h => jb (N' := σ.μ.N + 2) (by simp) h) fun _ H2 h2 => ?_
 refine aJ ac ?_
 refine aE h2 rfl ?_
 refine aM h2 ?_
 refine am h2 ac rfl ?_
 refine am h2 ak rfl ?_
 refine af h2 (Vx g.m σ.obs.length o.most) fun rb H3 h3 => ?_
 refine aD h3 h2 rfl ?_
 refine bn h3 h2 rfl ?_
 refine dZ ?_
 refine j8 h3 fun b0 H4 h4 => ?_
 refine gQ ((o, rb) : Ob × Nat) h4 rfl ?_ (by omega) fun a cc H5 h5 => ?_
 ·unfold cC; omega
 refine aL h5 ac rfl rfl fun H6 h6 => ?_
 refine aq ⟨(), rfl, ?_⟩
 refine mt { g with ov := .slice a (((σ.obs.map fun x => x.1).zip g.rp).length + 1) cc, rp := g.rp ++ [rb] } (by simp [aX.make, hg]) ?_
 unfold aN aX.make
 dsimp only
 have e1 : ((σ.obs ++ [(o, List.replicate (ew o.most) PN)]).map fun x => x.1).zip (g.rp ++ [rb]) = ((σ.obs.map fun x => x.1).zip g.rp) ++ [(o, rb)] := by
  rw [List.map_append, List.zip_append (by simp [hg])]
  rfl
 have e2 : (g.rp ++ [rb]).zip ((σ.obs ++ [(o, List.replicate (ew o.most) PN)]).map fun x => x.2) = (g.rp.zip (σ.obs.map fun x => x.2)) ++ [(rb, List.replicate (ew o.most) PN)] := by
  rw [List.map_append, List.zip_append (by simp [hg])]
  rfl
 have e3 : 0 + (g.rp.zip (σ.obs.map fun x => x.2)).length = σ.obs.length := by simp [hg]
 rw [e1, e2, Gr, e3]
 exact h6.to
theorem uc : Sp UQ [.slice none 0 0] emp (fun _ : Unit => .slice none 0 0) (fun _ => emp) := by
 refine av fun R H h => ?_
 refine aw (fun r => aaB _ H) ?_
 refine aa (v := vb true) rfl ?_
 with_reducible repeat refine gg ?_
 exact aq ⟨(), rfl, ae.to (by assumption)⟩
theorem pT (e : Int) : Sp kB [.agg (gK e).toArray] emp (fun _ : Unit => .agg (gK e).toArray) (fun _ => emp) := by
 refine av fun R H h => ?_
 refine aw (fun r => Dg _ H) ?_
 refine aH h fun b1 H1 h1 => ?_
 refine aO h1 fun b2 H2 h2 => ?_
 refine am h2 ak rfl ?_
 refine af h2 uc fun _ H3 h3 => ?_
 refine aL h3 ak rfl rfl fun H4 h4 => ?_
 refine aM h4 ?_
 refine bZ h4 rfl rfl fun H5 h5 => ?_
 refine aM h5 ?_
 exact aq ⟨(), rfl, h5.to⟩
abbrev aX.note (σ : aX) (step who e : Int) : aX := { σ with pts := σ.pts ++ [⟨step, who, (σ.places who).getD 0, e⟩] }
theorem Wq {P R P2 R2 : SP} {H H2 : AH} {b : Nat} {f : Int → Option Value} {zero : Value} {kk : OV} {Q : Value → AH → Prop} (k : Int) (h : ae P H) [m : Mp P b Ha f R] (h2 : ae P2 H2) [m2 : Mp P2 b Ha f R2] (hk : wp kk Q) :
 wp (bE (b7 .int zero (.map (some b)) (vi k) false H) (b7 .int zero (.map (some b)) (vi k) false H2) kk) Q := by
 have one : ∀ {P R : SP} {H : AH} (h : ae P H) [m : Mp P b Ha f R], b7 .int zero (.map (some b)) (vi k) false H = some ((f k).getD zero) := by
  intro P R H h m
  obtain ⟨v, H', e, q⟩ : wp ((b7 .int zero (.map (some b)) (vi k) false H).bind fun v => some (v, H)) (fun v _ => v = (f k).getD zero) := ND (ek := Ha) k h (aq rfl)
  obtain ⟨v', e1, e2⟩ := Option.bind_eq_some_iff.1 e
  have : v' = v := by simpa using congrArg (fun x => x.map Prod.fst) e2
  have e1' : b7 .int zero (.map (some b)) (vi k) false H = some v' := e1
  rw [e1', this, q]
 exact BD (by rw [one h, one h2]) hk
end
theorem t8 {cl : TCls} {a b : Int} (h : b ≠ 0) : aj cl .rem (vi a) (vi b) = some (vi (a.tmod b)) := by
 simp only [aj, j7, if_true]
 rw [if_neg h]
theorem abD {a b : Nat} : f3 [vu a, vu b] = some (vu (max a b)) := by
 simp only [f3]
 congr 2
 split <;> omega
abbrev pM (x : Ob) : List Value := [vi x.flow, vi x.most, vu x.r]
instance : Enc pM 3 := ⟨fun _ => rfl, fun _ => rfl, by omega⟩
abbrev HO (n : Nat) : List Value := [vu n]
instance : Enc HO 1 := ⟨fun _ => rfl, fun _ => rfl, by omega⟩
def e7 : List (Int × Int) → Int → Int
 | [], _ => 0
 | p :: ps, who => if (ps.any fun q => q.1 == who) = true then e7 ps who else if p.1 = who then p.2 else 0
def dE (l : List (Int × Int)) : List Int := l.flatMap fun p => [p.1, p.2]
def zZ (l : List (Int × Nat)) (k : Int) : Option Nat := (l.find? fun p => p.1 == k).map (·.2)
def nJ (x : Pt) : List Pt → List Pt
 | [] => [x]
 | y :: l => if y.step ≤ x.step ∨ (l.any fun z => decide (z.step ≤ x.step)) = true then y :: nJ x l else x :: y :: l
def aZ (l : List Pt) : List Pt := l.foldl (fun acc x => nJ x acc) []
def ci (m i rp : Nat) (cs : List Pk) : SP := ex fun cv : Value => blk rp (.cells false [vp m, vi i, vi cs.length, cv]) * ts 3 Pk.cells cv cs
def gL (m : Nat) : Nat → List (Nat × List Pk) → SP
 | _, [] => emp
 | i, p :: ps => ci m i p.1 p.2 * gL m (i + 1) ps
theorem Gs (m : Nat) : ∀ (ps : List (Nat × List Pk)) (i : Nat) (q : Nat × List Pk), gL m i (ps ++ [q]) = gL m i ps * ci m (i + ps.length) q.1 q.2 := by
 intro ps
 induction ps with
 | nil => intro i q; show ci m i q.1 q.2 * emp = emp * ci m (i + 0) q.1 q.2; rw [gN, oU]; rfl
 | cons p ps ih =>
  intro i q
  show ci m i p.1 p.2 * gL m (i + 1) (ps ++ [q]) = ci m i p.1 p.2 * gL m (i + 1) ps * _
  rw [ih, ap, List.length_cons, show i + 1 + ps.length = i + (ps.length + 1) from by omega]
def fR (ib m : Nat) (sh : Int) (nx : Int → Option Nat) (L : Nat) : SP := ex fun g : Value × Value × List (Int × Nat) =>
 pu ((∀ k, zZ g.2.2 k = nx k) ∧ g.2.2.length ≤ L) * (blk ib (.cells false [vp m, vi sh, g.1, g.2.1]) * (ts 1 jA g.1 (g.2.2.map (·.1)) * ts 1 HO g.2.1 (g.2.2.map (·.2))))
theorem lF {ib m : Nat} {sh : Int} {nx : Int → Option Nat} {L : Nat} {R : SP} {H : AH} (h : ae (fR ib m sh nx L * R) H) :
 ∃ (kv nv : Value) (ns : List (Int × Nat)), ((∀ k, zZ ns k = nx k) ∧ ns.length ≤ L) ∧ ae (blk ib (.cells false [vp m, vi sh, kv, nv]) * (ts 1 jA kv (ns.map (·.1)) * (ts 1 HO nv (ns.map (·.2)) * R))) H := by
 obtain ⟨⟨kv, nv, ns⟩, h1⟩ := ae.ex.1 h
 rw [ap, ae.pu] at h1
 exact ⟨kv, nv, ns, h1.1, h1.2.to⟩
theorem fS {ib m : Nat} {sh : Int} {nx : Int → Option Nat} {L : Nat} {R : SP} {H : AH} {kv nv : Value} {ns : List (Int × Nat)} (hn : (∀ k, zZ ns k = nx k) ∧ ns.length ≤ L)
 (h : ae (blk ib (.cells false [vp m, vi sh, kv, nv]) * (ts 1 jA kv (ns.map (·.1)) * (ts 1 HO nv (ns.map (·.2)) * R))) H) : ae (fR ib m sh nx L * R) H := by
 refine ae.ex.2 ⟨(kv, nv, ns), ?_⟩
 rw [ap, ae.pu]
 exact ⟨hn, h.to⟩
theorem mn {ib m : Nat} {sh : Int} {nx : Int → Option Nat} {L L' : Nat} {R : SP} {H : AH} (hL : L ≤ L') (h : ae (fR ib m sh nx L * R) H) : ae (fR ib m sh nx L' * R) H := by
 obtain ⟨g, h1⟩ := ae.ex.1 h
 rw [ap, ae.pu] at h1
 exact ae.ex.2 ⟨g, by rw [ap]; exact ae.pu.2 ⟨⟨h1.1.1, Nat.le_trans h1.1.2 hL⟩, h1.2⟩⟩
structure XIds where
 m : Nat
 ib : Nat
 tb : Nat
 po : Nat
 co : Nat
 ov : Value
 rv : Value
 rp : List Nat
 wv : Value
 ws : List (Int × Int)
 pv : Value
def ay (x : Nat) (g : XIds) (σ : aX) : SP :=
 blk x (.cells false [vi σ.c.sh, vi σ.c.sl, vi σ.c.wk, vi σ.c.wd, vu σ.c.un, vp g.m, vp g.ib, vp g.tb, vp g.po, vp g.co, g.ov, g.rv, g.wv, g.pv]) *
 (bk g.m σ.μ * (fR g.ib g.m σ.c.sh σ.nx σ.μ.N * (tab g.tb g.m σ.c.sh.toNat σ.c.sl.toNat *
 (ts 3 pM g.ov (σ.obs.map fun x => x.1) * (ts 1 mH g.rv g.rp * (gL g.m 0 (g.rp.zip (σ.obs.map fun x => x.2)) * (ts 1 jA g.wv (dE g.ws) * ts 7 Pt.cells g.pv (aZ σ.pts))))))))
def e6 (g : XIds) (σ : aX) : Prop := g.rp.length = σ.obs.length ∧ (∀ k, e7 g.ws k = (σ.places k).getD 0) ∧ g.ws.length ≤ σ.μ.N
def bv (x : Nat) (σ : aX) : SP := ex fun g : XIds => pu (e6 g σ) * ay x g σ
theorem eE {p : Nat} {σ : aX} {R : SP} {H : AH} (h : ae (bv p σ * R) H) : ∃ g : XIds, e6 g σ ∧ ae (ay p g σ * R) H := by
 obtain ⟨g, h1⟩ := ae.ex.1 h
 rw [ap, ae.pu] at h1
 exact ⟨g, h1⟩
theorem di {p : Nat} {σ : aX} {R : SP} {H : AH} (g : XIds) (hl : e6 g σ) (h : ae (ay p g σ * R) H) : ae (bv p σ * R) H :=
 ae.ex.2 ⟨g, by rw [ap]; exact ae.pu.2 ⟨hl, h⟩⟩
theorem Ds (m : Nat) (c : fO) (hc : cI c = true) : Sp jW [vp m, vi c.sh] emp (fun b : Nat => vp b) (fun b => blk b (.cells false [vp m, vi c.sh, .slice none 0 0, .slice none 0 0])) := by
 have hc := bT.1 hc
 refine av fun R H h => ?_
 refine aw (fun r => vr _ _ H) ?_
 refine aa (i3) ?_
 refine aa (i4) ?_
 rw [show min (max c.sh 1) 4 = c.sh from by omega]
 refine dZ ?_
 refine aH h fun b H3 h3 => ?_
 exact aq ⟨b, rfl, h3.to⟩
theorem Du (m : Nat) (c : fO) (hc : cI c = true) : Sp jY [vp m, vi c.sh, vi c.sl] emp (fun b : Nat => vp b) (fun b => tab b m c.sh.toNat c.sl.toNat) := by
 have hc := bT.1 hc
 refine av fun R H h => ?_
 refine aw (fun r => vx _ _ _ H) ?_
 refine aa (i3) ?_
 refine aa (i4) ?_
 refine aa (i3) ?_
 refine aa (i4) ?_
 rw [show min (max c.sh 1) 4 = ((c.sh.toNat : Nat) : Int) from by omega, show min (max c.sl 1) 4 = ((c.sl.toNat : Nat) : Int) from by omega]
 refine dZ ?_
 refine aH h fun b H3 h3 => ?_
 exact aq ⟨b, rfl, by unfold tab; exact h3.to⟩
theorem Gj (m : Nat) (w : Int) : Sp la [vp m, vi w] emp (fun b : Nat => vp b) (fun _ => emp) := by
 refine av fun R H h => ?_
 refine aw (fun r => yN _ _ H) ?_
 refine aa (i3) ?_
 refine aa (i4) ?_
 refine dZ ?_
 refine aH h fun b H3 h3 => ?_
 exact aq ⟨b, rfl, h3.to⟩
theorem PR (w : Int) : Sp n7 [vi w] emp (fun x : Int => vi x) (fun _ => emp) := by
 refine av fun R H h => ?_
 refine aw (fun r => Dm _ H) ?_
 refine aa (i3) ?_
 refine aa (i4) ?_
 exact aq ⟨_, rfl, h⟩
theorem Do (n w : Int) : Sp UN [vi n, vi w] emp (fun b : Nat => vp b) (fun _ => emp) := by
 refine av fun R H h => ?_
 refine aw (fun r => Z5 _ _ H) ?_
 refine dZ ?_
 refine aH h fun q H2 h2 => ?_
 refine ag (PW _ _ _ _ H2) ?_
 refine ag (PY _ _ _ _ _ H2) ?_
 obtain ⟨k, hk⟩ : ∃ k : Nat, min (max n 1) 16 = k := ⟨(min (max n 1) 16).toNat, by omega⟩
 have hk16 : k ≤ 16 := by omega
 have loop : ∀ (d i : Nat) (nv : Value) (m : List Nat) (H : AH), i + d = k → m.length = i → ae (blk q (.cells false [nv]) * ts 1 mH nv m * R) H → wp (Dw (vi n) (vi w) (.pointer none) (vp q) (vi i) H) fun v' H' => ∃ b : Nat, v' = vp b ∧ ae (emp * R) H' := by
  intro d
  induction d with
  | zero =>
   intro i nv m H hi hm h
   refine ag (A5 _ _ _ _ _ H) ?_
   refine aa (i3) ?_
   refine aa (i4) ?_
   refine aa (bI (by omega)) ?_
   with_reducible repeat refine gg ?_
   refine ag (Gm _ _ H) ?_
   refine ag (PX _ _ H) ?_
   exact aq ⟨q, rfl, h.to⟩
  | succ d ih =>
   intro i nv m H hi hm h
   refine ag (A5 _ _ _ _ _ H) ?_
   refine aa (i3) ?_
   refine aa (i4) ?_
   refine aa (b4 (by omega)) ?_
   with_reducible repeat refine gg ?_
   refine ag (PZ _ _ _ _ _ H) ?_
   refine aJ ac ?_
   refine aE h rfl ?_
   refine af h (PR w) fun x H3 h3 => ?_
   refine aD h3 h rfl ?_
   refine dZ ?_
   refine aH h3 fun sb H3b h3b => ?_
   refine j8 h3b fun b0 H4 h4 => ?_
   refine gQ (sb : Nat) h4 rfl ?_ (by omega) fun a c H5 h5 => ?_
   ·unfold cC; omega
   refine aL h5 ac rfl rfl fun H6 h6 => ?_
   refine ag (P1 _ _ _ _ _ H6) ?_
   refine aa (aB (by omega) (by omega)) ?_
   exact ih (i + 1) (.slice a (m.length + 1) c) (m ++ [sb]) H6 (by omega) (by simp; omega) h6.to
 refine loop k 0 (.slice none 0 0) [] H2 (by omega) rfl ?_
 have h3 := eH 1 mH h2
 exact h3.to
theorem Gi (c : fO) : Sp k7 [.agg (fO.cells c).toArray] emp (fun b : Nat => vp b) (fun _ => emp) := by
 refine av fun R H h => ?_
 refine aw (fun r => yM _ H) ?_
 refine aH h fun cb H1 h1 => ?_
 refine am h1 ak rfl ?_
 refine am h1 ak rfl ?_
 refine af h1 (Do c.sh c.wd) fun q H2 h2 => ?_
 refine dZ ?_
 refine aH h2 fun b H5 h5 => ?_
 exact aq ⟨b, rfl, h5.to⟩
theorem UH {b : Nat} {R : SP} {H : AH} (h : ae (blk b (.cells false [.slice none 0 0, .slice none 0 0, .slice none 0 0]) * R) H) : ae (bk b ⟨fun _ => 0, [], 0⟩ * R) H := by
 refine ae.ex.2 ⟨[], ?_⟩
 rw [ap, ae.pu]
 refine ⟨⟨fun _ => rfl, Nat.le_refl _⟩, ae.ex.2 ⟨(.slice none 0 0, .slice none 0 0, .slice none 0 0), ?_⟩⟩
 have h1 := eH 3 BS (eH 1 EL (eH 5 Ev.cells h))
 exact h1.to
theorem Dt (c : fO) (hc : cI c = true) : Sp jX [.agg (fO.cells c).toArray] emp (fun b : Nat => vp b) (fun b => bv b (aX.new c)) := by
 refine av fun R H h => ?_
 refine aw (fun r => vt _ H) ?_
 refine aH h fun cb H1 h1 => ?_
 refine dZ ?_
 refine aH h1 fun m H2 h2 => ?_
 refine aM h2 ?_
 refine am h2 ak rfl ?_
 refine af h2 (Ds m c hc) fun ib H3 h3 => ?_
 refine bn h3 h2 rfl ?_
 refine aJ ak ?_
 refine aE h3 rfl ?_
 refine aD h2 h3 rfl ?_
 refine aJ ak ?_
 refine aE h3 rfl ?_
 refine aD h2 h3 rfl ?_
 refine af h3 (Du m c hc) fun tb H4 h4 => ?_
 refine bn h4 h2 rfl ?_
 refine aJ ak ?_
 refine aE h4 rfl ?_
 refine aD h2 h4 rfl ?_
 refine aD h3 h4 rfl ?_
 refine af h4 (Gj m c.wk) fun pb H5 h5 => ?_
 refine bn h5 h2 rfl ?_
 refine aM h5 ?_
 refine bn h2 h5 rfl ?_
 refine bn h3 h5 rfl ?_
 refine bn h4 h5 rfl ?_
 refine af h5 (Gi c) fun kb H6 h6 => ?_
 refine bn h6 h2 rfl ?_
 refine dZ ?_
 refine aH h6 fun b H7 h7 => ?_
 refine aq ⟨b, rfl, ?_⟩
 refine di ⟨m, ib, tb, pb, kb, .slice none 0 0, .slice none 0 0, [], .slice none 0 0, [], .slice none 0 0⟩ ⟨rfl, fun _ => rfl, Nat.le_refl _⟩ ?_
 have h8 := UH (b := m) (R := blk b (.cells false [vi c.sh, vi c.sl, vi c.wk, vi c.wd, vu c.un, vp m, vp ib, vp tb, vp pb, vp kb, .slice none 0 0, .slice none 0 0, .slice none 0 0, .slice none 0 0]) * (tab tb m c.sh.toNat c.sl.toNat * (blk ib (.cells false [vp m, vi c.sh, .slice none 0 0, .slice none 0 0]) * R))) (ae.to h7)
 have h8a := eH 1 jA (eH 1 HO h8)
 have h8b := fS (ib := ib) (m := m) (sh := c.sh) (nx := fun _ => none) (L := 0) (kv := .slice none 0 0) (nv := .slice none 0 0) (ns := []) (R := bk m ⟨fun _ => 0, [], 0⟩ * (blk b (.cells false [vi c.sh, vi c.sl, vi c.wk, vi c.wd, vu c.un, vp m, vp ib, vp tb, vp pb, vp kb, .slice none 0 0, .slice none 0 0, .slice none 0 0, .slice none 0 0]) * (tab tb m c.sh.toNat c.sl.toNat * R))) (H := H7) ⟨fun _ => rfl, Nat.le_refl _⟩ (show ae (blk ib (.cells false [vp m, vi c.sh, .slice none 0 0, .slice none 0 0]) * (ts 1 jA (.slice none 0 0) [] * (ts 1 HO (.slice none 0 0) [] * (bk m ⟨fun _ => 0, [], 0⟩ * (blk b (.cells false [vi c.sh, vi c.sl, vi c.wk, vi c.wd, vu c.un, vp m, vp ib, vp tb, vp pb, vp kb, .slice none 0 0, .slice none 0 0, .slice none 0 0, .slice none 0 0]) * (tab tb m c.sh.toNat c.sl.toNat * R)))))) H7 from h8a.to)
 have h9 := eH 3 pM (eH 1 mH (eH 1 jA (eH 7 Pt.cells h8b)))
 unfold ay
 show ae (blk b (.cells false [vi c.sh, vi c.sl, vi c.wk, vi c.wd, vu c.un, vp m, vp ib, vp tb, vp pb, vp kb, .slice none 0 0, .slice none 0 0, .slice none 0 0, .slice none 0 0]) * (bk m ⟨fun _ => 0, [], 0⟩ * (fR ib m c.sh (fun _ => none) 0 * (tab tb m c.sh.toNat c.sl.toNat *
  (ts 3 pM (.slice none 0 0) [] * (ts 1 mH (.slice none 0 0) [] * (emp * (ts 1 jA (.slice none 0 0) [] * ts 7 Pt.cells (.slice none 0 0) [])))))))  * R) H7
 exact h9.to
theorem Jq {cl : TCls} {a b : Int} (h : b ≠ 0) (h0 : -9223372036854775808 ≤ a.tdiv b) (h1 : a.tdiv b < 9223372036854775808) : aj cl .quo (vi a) (vi b) = some (vi (a.tdiv b)) := by
 simp only [aj, j7, if_true]
 rw [if_neg h, lR h0 h1]
theorem sf {m : Nat} {V : bV → Nat} {E : List Ev} {N N' : Nat} {R : SP} {H : AH} (hN : N ≤ N') (h : ae (bk m ⟨V, E, N⟩ * R) H) : ae (bk m ⟨V, E, N'⟩ * R) H := by
 obtain ⟨al, h1⟩ := ae.ex.1 h
 rw [ap, ae.pu] at h1
 exact ae.ex.2 ⟨al, by rw [ap]; exact ae.pu.2 ⟨⟨h1.1.1, Nat.le_trans h1.1.2 hN⟩, h1.2⟩⟩
def iP (flow : Int) (obj : Nat) : Nat := (flow + 1).toNat * 4294967296 + obj
section
variable (t m : Nat) (sh sl : Nat) (μ : Mu) (who s i flow : Int) (obj : Nat)
theorem QV (hE : μ.N < 1099511627000) (hf : 0 ≤ flow ∧ flow ≤ 1048576) (ho : obj < 4294967296) :
 Sp gC [vp t, vi who, vi s, vi i, vi flow, vi obj] (tab t m sh sl * bj m μ) (fun _ : Unit => vb true) (fun _ => tab t m sh sl * bj m ((μ.acc who 2 (10, s, i)).put (10, s, i) (iP flow obj))) := by
 refine av fun R H h => ?_
 refine aw (fun r => qU _ _ _ _ _ _ H) ?_
 unfold tab at h ⊢
 refine aa (bI (by omega)) ?_
 with_reducible repeat refine gg ?_
 refine aa (gU ?_) ?_
 ·omega
 with_reducible repeat refine gg ?_
 refine aa (bI ?_) ?_
 ·omega
 with_reducible repeat refine gg ?_
 refine aa (pQ ?_) ?_
 ·omega
 with_reducible repeat refine gg ?_
 refine aJ ac ?_
 refine aE h rfl ?_
 refine af h (zq s i) fun _ H1 h1 => ?_
 refine aD h1 h rfl ?_
 refine aa (aB (by omega) (by omega)) ?_
 refine aa (cU (by omega) (by omega)) ?_
 have hn : (flow + 1).toNat ≤ 1048577 := by omega
 have e1 : aj .other .shl (vu (flow + 1).toNat) (vw 32) = some (vu ((flow + 1).toNat * 4294967296)) := by
  have := Ak (cl := .other) (a := (flow + 1).toNat) (k := .u64) (n := 32) (by omega)
  simp only [Nat.reducePow] at this
  rw [Nat.mod_eq_of_lt (by omega)] at this
  exact this
 refine aa (e1) ?_
 refine aa (cU (by omega) (by omega)) ?_
 rw [show ((obj : Nat) : Int).toNat = obj from Int.toNat_natCast obj]
 have e2 : aj .other .or (vu ((flow + 1).toNat * 4294967296)) (vu obj) = some (vu (iP flow obj)) := by
  rw [Ru (by omega) (by omega)]
  congr 3
  have := Nat.two_pow_add_eq_or_of_lt (i := 32) (b := obj) (by simp only [Nat.reducePow]; omega) (flow + 1).toNat
  simp only [Nat.reducePow] at this
  rw [iP, Nat.mul_comm, ← this]
 refine aa (e2) ?_
 refine af h1 (De m μ who (10, s, i) (iP flow obj) (by omega)) fun _ H2 h2 => ?_
 exact aq ⟨(), rfl, h2.to⟩
theorem XW (hE : μ.N < 1099511627000) (hf : 0 ≤ flow ∧ flow ≤ 1048576) (ho : obj < 4294967296) :
 Sp iZ [vp t, vi who, vi s, vi i, vi flow, vi obj] (tab t m sh sl * bk m μ) (fun _ : Unit => vb true) (fun _ => tab t m sh sl * bk m ((μ.acc who 2 (10, s, i)).put (10, s, i) (iP flow obj))) := by
 refine av fun R H h => ?_
 refine aw (fun r => tZ _ _ _ _ _ _ H) ?_
 unfold tab at h ⊢
 refine aa (bI (by omega)) ?_
 with_reducible repeat refine gg ?_
 refine aa (gU ?_) ?_
 ·omega
 with_reducible repeat refine gg ?_
 refine aa (bI ?_) ?_
 ·omega
 with_reducible repeat refine gg ?_
 refine aa (cU (by omega) (by omega)) ?_
 rw [show ((obj : Nat) : Int).toNat = obj from Int.toNat_natCast obj]
 with_reducible repeat refine gg ?_
 refine aa (pQ ?_) ?_
 ·omega
 with_reducible repeat refine gg ?_
 refine aJ ac ?_
 refine aE h rfl ?_
 refine af h (cV 10 s i) fun _ H1 h1 => ?_
 refine aD h1 h rfl ?_
 refine aa (aB (by omega) (by omega)) ?_
 refine aa (cU (by omega) (by omega)) ?_
 have hn : (flow + 1).toNat ≤ 1048577 := by omega
 refine aa (abE) ?_
 rw [Nat.mod_eq_of_lt (by omega)]
 refine aa (cU (by omega) (by omega)) ?_
 rw [show ((obj : Nat) : Int).toNat = obj from Int.toNat_natCast obj]
 refine aa (dW (by omega)) ?_
 refine af h1 (t6 m μ who (10, s, i) (iP flow obj) (by omega)) fun _ H2 h2 => ?_
 exact aq ⟨(), rfl, h2.to⟩
end
section
variable (p : Nat) (σ : aX)
theorem Qd (m i : Nat) (most : Int) : Sp lc [vp m, vi i, vi most] emp (fun b : Nat => vp b) (fun b => ci m i b (List.replicate (ew most) PN)) := by
 obtain ⟨q1, q2, q3⟩ := tL most
 refine av fun R H h => ?_
 refine aw (fun r => yO _ _ _ H) ?_
 refine aa (i3) ?_
 refine aa (i4) ?_
 rw [← q3]
 refine KA (enc := Pk.cells) PN h rfl (by unfold cC; omega) (by omega) fun cb H1 h1 => ?_
 refine dZ ?_
 refine aH h1 fun b H2 h2 => ?_
 refine aq ⟨b, rfl, ?_⟩
 unfold ci
 refine ae.ex.2 ⟨vs cb (ew most) 3, ?_⟩
 rw [List.length_replicate]
 exact h2.to
theorem abC (who : Int) (o : Ob) (hE : σ.μ.N < 1099511627000) (ho : σ.obs.length < 1000000) : Sp il [vp p, vi who, .agg [vi o.flow, vi o.most, vu o.r].toArray] (bv p σ) (fun _ : Unit => vi σ.obs.length) (fun _ => bv p (σ.make who o)) := by
 refine av fun R H h => ?_
 obtain ⟨g, ⟨hg, hg2⟩, h0⟩ := eE h
 unfold ay at h0
 refine aw (fun r => sJ _ _ _ H) ?_
 refine aH (l := [vi o.flow, vi o.most, vu o.r]) h0 fun ob H1 h1 => ?_
 refine am h1 ac rfl ?_
 refine mB (s := g.ov) h1 ?_
 rw [List.length_map]
 refine aJ ac ?_
 refine aE h1 rfl ?_
 refine af h1 (cV 13 σ.obs.length 0) fun _ H2 h2 => ?_
 refine aD h2 h1 rfl ?_
 refine af h2 ((Q8 g.m σ.μ who 6 (13, σ.obs.length, 0) (by omega)).imp fun _ R H h => sf (N' := σ.μ.N + 2) (by simp) h) fun _ H3 h3 => ?_
 refine am h3 ac rfl ?_
 refine aM h3 ?_
 refine j8 h3 fun b0 H4 h4 => ?_
 refine gQ (o : Ob) h4 rfl ?_ (by omega) fun a cc H5 h5 => ?_
 ·unfold cC; simp only [List.length_map]; omega
 refine aJ ac ?_
 refine aE h5 rfl ?_
 refine aD h4 h5 rfl ?_
 refine aJ ac ?_
 refine aE h5 rfl ?_
 refine aD h4 h5 rfl ?_
 refine aJ ak ?_
 refine aE h5 rfl ?_
 refine aD h4 h5 rfl ?_
 refine af h5 (Qd g.m σ.obs.length o.most) fun rb H6 h6 => ?_
 refine aD h6 h5 rfl ?_
 refine j8 h6 fun b1 H7 h7 => ?_
 refine gQ (rb : Nat) h7 rfl ?_ (by omega) fun a2 c2 H8 h8 => ?_
 ·unfold cC; omega
 refine aL h8 ac rfl rfl fun H9 h9 => ?_
 refine aL h9 ac rfl rfl fun H10 h10 => ?_
 refine aq ⟨(), rfl, ?_⟩
 refine di { g with ov := .slice a ((σ.obs.map fun x => x.1).length + 1) cc, rv := .slice a2 (g.rp.length + 1) c2, rp := g.rp ++ [rb] } ⟨by simp [aX.make, hg], hg2.1, Nat.le_trans hg2.2 (by simp [aX.make])⟩ ?_
 unfold ay aX.make
 dsimp only
 have e2 : (g.rp ++ [rb]).zip ((σ.obs ++ [(o, List.replicate (ew o.most) PN)]).map fun x => x.2) = (g.rp.zip (σ.obs.map fun x => x.2)) ++ [(rb, List.replicate (ew o.most) PN)] := by
  rw [List.map_append, List.zip_append (by simp [hg])]
  rfl
 have e1 : (σ.obs ++ [(o, List.replicate (ew o.most) PN)]).map (fun x => x.1) = (σ.obs.map fun x => x.1) ++ [o] := by rw [List.map_append]; rfl
 have e3 : 0 + (g.rp.zip (σ.obs.map fun x => x.2)).length = σ.obs.length := by simp [hg]
 rw [e1, e2, Gs, e3]
 dsimp only
 have h11 := mn (L' := σ.μ.N + 2) (by omega) (ae.fr (A := fR g.ib g.m σ.c.sh σ.nx σ.μ.N) h10)
 exact h11.to
theorem Gg (u : Nat) (w : Int) (hu : 1 ≤ u ∧ u ≤ 4611686018427387904) (hw : 1 ≤ w ∧ w ≤ 65536) : Sp kZ [vu u, vi w] emp (fun _ : Unit => .tuple #[vu (max (u / w.toNat) 1), vb true]) (fun _ => emp) := by
 refine av fun R H h => ?_
 refine aw (fun r => yI _ _ H) ?_
 refine aa (bI (by omega)) ?_
 with_reducible repeat refine gg ?_
 refine aa (gU ?_) ?_
 ·omega
 with_reducible repeat refine gg ?_
 refine aa (bI ?_) ?_
 ·omega
 with_reducible repeat refine gg ?_
 refine aa (gU ?_) ?_
 ·omega
 with_reducible repeat refine gg ?_
 refine aa (cU (by omega) (by omega)) ?_
 refine aa (Aj (by omega) (by omega)) ?_
 refine aa (abD (b := 1)) ?_
 exact aq ⟨(), rfl, h.to⟩
abbrev aX.lay (σ : aX) (f w most : Int) : aX :=
 { σ.make 0 ⟨f, most, max (σ.c.un / w.toNat) 1⟩ with
  μ := ((σ.make 0 ⟨f, most, max (σ.c.un / w.toNat) 1⟩).μ.acc 0 2 (10, f.tmod σ.c.sh, f.tdiv σ.c.sh)).put (10, f.tmod σ.c.sh, f.tdiv σ.c.sh) (iP f σ.obs.length) }
theorem XJ (x : Nat) (f w most : Int) (hc : cI σ.c = true) (hE : σ.μ.N < 1099511620000) (ho : σ.obs.length < 1000000) (hf : 0 ≤ f ∧ f ≤ 1048576) (hw : 1 ≤ w ∧ w ≤ 65536) :
 Sp jS [.agg [vp p, vp x].toArray, vi f, vi w, vi most] (d6 p σ * bv x σ) (fun _ : Unit => vb true) (fun _ => d6 p (σ.lay f w most) * bv x (σ.lay f w most)) := by
 have hr := bT.1 hc
 have q0 : 0 ≤ f.tdiv σ.c.sh := Int.tdiv_nonneg hf.1 (by omega)
 have q1 : f.tdiv σ.c.sh ≤ f := Int.tdiv_le_self _ hf.1
 refine av fun R H h => ?_
 refine aw (fun r => u4 _ _ _ _ H) ?_
 refine aH (l := [vp p, vp x]) h fun b H1 h1 => ?_
 refine am h1 ak rfl ?_
 obtain ⟨g, hg, k1⟩ := eE (p := x) (σ := σ) (R := blk b (.cells false [vp p, vp x]) * (d6 p σ * R)) (H := H1) h1.to
 unfold ay at k1
 refine a7 k1 ac ?_
 refine aO h1 fun b2 H2 h2 => ?_
 refine bZ h2 rfl rfl fun H3 h3 => ?_
 refine am h3 ak rfl ?_
 refine af h3 (Gg σ.c.un w ⟨by omega, by omega⟩ hw) fun _ H4 h4 => ?_
 refine aa (v := vu (max (σ.c.un / w.toNat) 1)) rfl ?_
 refine aa (v := vb true) rfl ?_
 refine dZ ?_
 refine aO h4 fun b3 H5 h5 => ?_
 refine bZ h5 rfl rfl fun H6 h6 => ?_
 refine am h6 ak rfl ?_
 refine aM h6 ?_
 refine af h6 (Jl p σ 0 ⟨f, most, max (σ.c.un / w.toNat) 1⟩ (by omega) ho) fun _ H7 h7 => ?_
 refine aJ ak ?_
 refine aE h7 rfl ?_
 refine aD h6 h7 rfl ?_
 refine aM h7 ?_
 refine bn h6 h7 rfl ?_
 refine af h7 (abC x σ 0 ⟨f, most, max (σ.c.un / w.toNat) 1⟩ (by omega) ho) fun _ H8 h8 => ?_
 refine aa (bo rfl) ?_
 with_reducible repeat refine gg ?_
 refine am h8 ak rfl ?_
 obtain ⟨gp, hgp, k8⟩ := kH (p := p) (σ := σ.make 0 ⟨f, most, max (σ.c.un / w.toNat) 1⟩) (R := blk b (.cells false [vp p, vp x]) * (blk b2 (.cells false (fO.cells σ.c)) * (bv x (σ.make 0 ⟨f, most, max (σ.c.un / w.toNat) 1⟩) * R))) (H := H8) h8.to
 unfold aN at k8
 with_reducible repeat refine gg ?_
 refine am k8 ac rfl ?_
 with_reducible repeat refine gg ?_
 refine am k8 ak rfl ?_
 with_reducible repeat refine gg ?_
 refine aa (t8 (by omega)) ?_
 with_reducible repeat refine gg ?_
 refine am k8 ak rfl ?_
 with_reducible repeat refine gg ?_
 refine aa (Jq (by omega) (by omega) (by omega)) ?_
 with_reducible repeat refine gg ?_
 refine af k8 (QV gp.tb gp.m σ.c.sh.toNat σ.c.sl.toNat (σ.make 0 ⟨f, most, max (σ.c.un / w.toNat) 1⟩).μ 0 (f.tmod σ.c.sh) (f.tdiv σ.c.sh) f σ.obs.length (by simp [aX.make]; omega) hf (by omega)) fun _ H9 k9 => ?_
 have h9 : ae (d6 p (σ.lay f w most) * (blk b (.cells false [vp p, vp x]) * (blk b2 (.cells false (fO.cells σ.c)) * (bv x (σ.make 0 ⟨f, most, max (σ.c.un / w.toNat) 1⟩) * R)))) H9 := by
  refine mt gp hgp ?_
  unfold aN
  exact k9.to
 with_reducible repeat refine gg ?_
 refine am h9 ak rfl ?_
 obtain ⟨gx, hgx, l9⟩ := eE (p := x) (σ := σ.make 0 ⟨f, most, max (σ.c.un / w.toNat) 1⟩) (R := blk b (.cells false [vp p, vp x]) * (blk b2 (.cells false (fO.cells σ.c)) * (d6 p (σ.lay f w most) * R))) (H := H9) h9.to
 unfold ay at l9
 with_reducible repeat refine gg ?_
 refine am l9 ac rfl ?_
 with_reducible repeat refine gg ?_
 refine am l9 ak rfl ?_
 with_reducible repeat refine gg ?_
 refine aa (t8 (by omega)) ?_
 with_reducible repeat refine gg ?_
 refine am l9 ak rfl ?_
 with_reducible repeat refine gg ?_
 refine aa (Jq (by omega) (by omega) (by omega)) ?_
 with_reducible repeat refine gg ?_
 refine af l9 (XW gx.tb gx.m σ.c.sh.toNat σ.c.sl.toNat (σ.make 0 ⟨f, most, max (σ.c.un / w.toNat) 1⟩).μ 0 (f.tmod σ.c.sh) (f.tdiv σ.c.sh) f σ.obs.length (by simp [aX.make]; omega) hf (by omega)) fun _ H10 l10 => ?_
 have h10 : ae (bv x (σ.lay f w most) * (blk b (.cells false [vp p, vp x]) * (blk b2 (.cells false (fO.cells σ.c)) * (d6 p (σ.lay f w most) * R)))) H10 := by
  refine di gx ⟨hgx.1, hgx.2.1, Nat.le_trans hgx.2.2 (by simp [aX.lay, aX.make])⟩ ?_
  unfold ay
  have l11 := mn (L' := σ.μ.N + 2 + 2) (by omega) (ae.fr (A := fR gx.ib gx.m σ.c.sh σ.nx (σ.μ.N + 2)) l10)
  exact l11.to
 with_reducible repeat refine gg ?_
 exact aq ⟨(), rfl, h10.to⟩
end
def aX.made (c : fO) : Nat → aX
 | 0 => aX.new c
 | f + 1 => if (f : Int).tdiv c.sh < c.sl then (aX.made c f).lay f (1 + f) (2 + (f : Int).tmod 2) else aX.made c f
theorem Ja (c : fO) : ∀ n, (aX.made c n).c = c ∧ (aX.made c n).μ.N ≤ 4 * n ∧ (aX.made c n).obs.length ≤ n := by
 intro n
 induction n with
 | zero => exact ⟨rfl, Nat.le_refl _, Nat.le_refl _⟩
 | succ n ih =>
  obtain ⟨h1, h2, h3⟩ := ih
  unfold aX.made
  split
  ·refine ⟨h1, ?_, ?_⟩
   ·simp [aX.lay, aX.make]; omega
   ·simp [aX.lay, aX.make]; omega
  ·exact ⟨h1, by omega, by omega⟩
theorem qD (b : Nat) : aj .ptr .eql (vp b) (.pointer none) = some (vb false) := rfl
theorem Uu (c0 : fO) (n : Nat) (hn : n ≤ 16) : Sp qt [.agg (fO.cells c0).toArray, vi n] emp (fun g : Nat × Nat × fO => .tuple #[.agg [vp g.1, vp g.2.1].toArray, vb true])
 (fun g => pu (cI g.2.2 = true) * (d6 g.1 (aX.made g.2.2 n) * bv g.2.1 (aX.made g.2.2 n))) := by
 refine av fun R H h => ?_
 refine aw (fun r => FN _ _ H) ?_
 refine aH h fun b H1 h1 => ?_
 refine aO h1 fun b2 H2 h2 => ?_
 refine aM h2 ?_
 refine af h2 (F9 c0) fun c H3 h3 => ?_
 rw [ae.pu] at h3
 obtain ⟨hc, h3⟩ := h3
 refine bZ h3 rfl rfl fun H4 h4 => ?_
 refine aM h4 ?_
 refine af h4 (Jm c hc) fun p H5 h5 => ?_
 refine aa (v := vp p) rfl ?_
 refine aa (v := vi 0) rfl ?_
 refine aa (so rfl) ?_
 with_reducible repeat refine gg ?_
 refine aa (qD _) ?_
 with_reducible repeat refine gg ?_
 obtain ⟨g, hg, k5⟩ := kH (p := p) (σ := aX.new c) (R := blk b2 (.cells false [.pointer none, .pointer none]) * (blk b (.cells false (fO.cells c)) * R)) (H := H5) h5.to
 unfold aN at k5
 refine am k5 ac rfl ?_
 with_reducible repeat refine gg ?_
 refine aa (qD _) ?_
 with_reducible repeat refine gg ?_
 refine am k5 ac rfl ?_
 with_reducible repeat refine gg ?_
 refine aa (qD _) ?_
 with_reducible repeat refine gg ?_
 refine am k5 ac rfl ?_
 with_reducible repeat refine gg ?_
 refine aa (qD _) ?_
 with_reducible repeat refine gg ?_
 refine am k5 ac rfl ?_
 with_reducible repeat refine gg ?_
 refine aa (qD _) ?_
 with_reducible repeat refine gg ?_
 refine am k5 ac rfl ?_
 with_reducible repeat refine gg ?_
 refine aa (qD _) ?_
 with_reducible repeat refine gg ?_
 refine aM h5 ?_
 refine af h5 (Dt c hc) fun x H6 h6 => ?_
 refine dZ ?_
 refine aO h6 fun b3 H7 h7 => ?_
 refine bZ h7 rfl rfl fun H8 h8 => ?_
 refine ag (yl _ _ _ _ _ H8) ?_
 refine ag (yn _ _ _ _ _ _ H8) ?_
 have hr := bT.1 hc
 have loop : ∀ (d i : Nat) (H : AH), i + d = n → ae (blk b3 (.cells false [vp p, vp x]) * (blk b2 (.cells false [.pointer none, .pointer none]) * (blk b (.cells false (fO.cells c)) * (d6 p (aX.made c i) * (bv x (aX.made c i) * R))))) H →
  wp (kw (vi n) (vp b) (vp b2) (vb false) (vp b3) (vi i) H) fun v' H' => ∃ g : Nat × Nat × fO, v' = .tuple #[.agg [vp g.1, vp g.2.1].toArray, vb true] ∧ ae (pu (cI g.2.2 = true) * (d6 g.1 (aX.made g.2.2 n) * bv g.2.1 (aX.made g.2.2 n)) * R) H' := by
  intro d
  induction d with
  | zero =>
   intro i H hi h
   refine ag (nX _ _ _ _ _ _ H) ?_
   refine aa (bI (by omega)) ?_
   with_reducible repeat refine gg ?_
   refine ag (tG _ _ _ H) ?_
   refine ag (ym _ _ _ H) ?_
   refine aM h ?_
   refine bZ h rfl rfl fun H2 h2 => ?_
   refine aM h2 ?_
   refine aq ⟨(p, x, c), rfl, ?_⟩
   rw [ap, ae.pu]
   have e : i = n := by omega
   subst e
   exact ⟨hc, h2.to⟩
  | succ d ih =>
   intro i H hi h
   obtain ⟨m1, m2, m3⟩ := Ja c i
   have q0 : 0 ≤ (i : Int).tdiv c.sh := Int.tdiv_nonneg (by omega) (by omega)
   have q1 : (i : Int).tdiv c.sh ≤ i := Int.tdiv_le_self _ (by omega)
   have t0 : 0 ≤ (i : Int).tmod 2 := Int.tmod_nonneg _ (by omega)
   have t1 : (i : Int).tmod 2 < 2 := Int.tmod_lt_of_pos _ (by omega)
   have next : ∀ {H : AH}, ae (blk b3 (.cells false [vp p, vp x]) * (blk b2 (.cells false [.pointer none, .pointer none]) * (blk b (.cells false (fO.cells c)) * (d6 p (aX.made c (i + 1)) * (bv x (aX.made c (i + 1)) * R))))) H →
    wp (nY (vi n) (vp b) (vp b2) (vb false) (vp b3) (vi i) H) fun v' H' => ∃ g : Nat × Nat × fO, v' = .tuple #[.agg [vp g.1, vp g.2.1].toArray, vb true] ∧ ae (pu (cI g.2.2 = true) * (d6 g.1 (aX.made g.2.2 n) * bv g.2.1 (aX.made g.2.2 n)) * R) H' := by
    intro H h
    refine ag (yp _ _ _ _ _ _ H) ?_
    refine aa (aB (by omega) (by omega)) ?_
    exact ih (i + 1) H (by omega) h
   refine ag (nX _ _ _ _ _ _ H) ?_
   refine aa (b4 (by omega)) ?_
   with_reducible repeat refine gg ?_
   refine ag (yo _ _ _ _ _ _ H) ?_
   refine am h ak rfl ?_
   refine aa (Jq (by omega) (by omega) (by omega)) ?_
   refine am h ak rfl ?_
   by_cases hf : (i : Int).tdiv c.sh < c.sl
   ·have e : aX.made c (i + 1) = (aX.made c i).lay i (1 + i) (2 + (i : Int).tmod 2) := by show (if _ then _ else _) = _; rw [if_pos hf]
    rw [e] at next
    refine aa (b4 hf) ?_
    with_reducible repeat refine gg ?_
    refine aM h ?_
    with_reducible repeat refine gg ?_
    refine aa (aB (by omega) (by omega)) ?_
    with_reducible repeat refine gg ?_
    refine aa (t8 (by omega)) ?_
    with_reducible repeat refine gg ?_
    refine aa (aB (by omega) (by omega)) ?_
    with_reducible repeat refine gg ?_
    refine af h (XJ p (aX.made c i) x i (1 + i) (2 + (i : Int).tmod 2) (by rw [m1]; exact hc) (by omega) (by omega) (by omega) (by omega)) fun _ H2 h2 => ?_
    with_reducible repeat refine gg ?_
    rw [Bool.not_true]
    with_reducible repeat refine gg ?_
    exact next h2.to
   ·have e : aX.made c (i + 1) = aX.made c i := by show (if _ then _ else _) = _; rw [if_neg hf]
    rw [e] at next
    refine aa (bI hf) ?_
    with_reducible repeat refine gg ?_
    exact next h
 exact loop n 0 H8 (by omega) (show ae (blk b3 (.cells false [vp p, vp x]) * (blk b2 (.cells false [.pointer none, .pointer none]) * (blk b (.cells false (fO.cells c)) * (d6 p (aX.new c) * (bv x (aX.new c) * R))))) H8 from h8.to)
noncomputable def d5 (p : List Nat) : Code := Code.sub (bJ Tryz.f5) p
noncomputable def ep : KK := ei PP (Tryz.f5).results.toList
noncomputable def YC : KK := CQ (d5 [1, 1, 1, 1, 1]) ep bx ep
noncomputable def nP (x2 x3 x8 x9 x11 : Value) (H : AH) : OV := YC (ls [u, u, x2, x3, u, u, u, u, x8, x9, u, x11] 137) H
noncomputable def ST : KK := CQ (d5 [1, 1, 1, 1, 1, 1]) ep bx ep
noncomputable def Yy : KK := dv 713623846352979940529142984724747568191370487 ST
noncomputable def nQ (x3 x8 x9 x11 : Value) (H : AH) : OV := ST (ls [u, u, u, x3, u, u, u, u, x8, x9, u, x11] 137) H
noncomputable def YD : KK := CQ (d5 [1, 1, 1, 1, 1, 1, 1]) ep bx ep
noncomputable def nR (x3 x8 x9 x11 x13 : Value) (H : AH) : OV := YD (ls [u, u, u, x3, u, u, u, u, x8, x9, u, x11, u, x13] 135) H
noncomputable def SW : KK := CQ (d5 [1, 1, 1, 1, 1, 1, 1, 1]) ep bx ep
noncomputable def Yz : KK := dv 713623846352979940529142984724747568191362295 SW
noncomputable def nS (x3 x8 x9 x11 x13 : Value) (H : AH) : OV := SW (ls [u, u, u, x3, u, u, u, u, x8, x9, u, x11, u, x13] 135) H
noncomputable def YE : KK := CQ (d5 [1, 1, 1, 1, 1, 1, 1, 1, 1, 1, 1]) ep bx ep
noncomputable def nT (x3 x8 x9 x13 x17 : Value) (H : AH) : OV := YE (ls [u, u, u, x3, u, u, u, u, x8, x9, u, u, u, x13, u, u, u, x17] 131) H
noncomputable def S4 : KK := CQ (d5 [1, 1, 1, 1, 1, 1, 1, 1, 1, 1, 1, 1]) ep bx ep
noncomputable def YA : KK := dv 713623846352979940529142984724747568191233279 S4
noncomputable def nU (x8 x9 x13 x17 : Value) (H : AH) : OV := S4 (ls [u, u, u, u, u, u, u, u, x8, x9, u, u, u, x13, u, u, u, x17] 131) H
noncomputable def YF : KK := CQ (d5 [1, 1, 1, 1, 1, 1, 1, 1, 1, 1, 1, 1, 1]) ep bx ep
noncomputable def nV (x8 x9 x13 x17 : Value) (H : AH) : OV := YF (ls [u, u, u, u, u, u, u, u, x8, x9, u, u, u, x13, u, u, u, x17] 131) H
noncomputable def YG : KK := CQ (d5 [1, 1, 1, 1, 1, 1, 1, 1, 1, 1, 1, 1, 1, 1]) ep bx ep
noncomputable def YB : KK := dv 713623846352979940529142984724747568191373055 YG
noncomputable def YH : KK := CQ (d5 [1, 1, 1, 1, 1, 1, 1, 1, 1, 1, 1, 1, 1, 0, 1]) YB bx ep
noncomputable def nW (x8 x9 x13 x17 x21 : Value) (H : AH) : OV := YH (ls [u, u, u, u, u, u, u, u, x8, x9, u, u, u, x13, u, u, u, x17, u, u, u, x21] 127) H
noncomputable def Tg : KX := BX 6 YB bx
noncomputable def Mg : KX := py 713623846352979940529142984724747568191373055 Tg
noncomputable def IE : KK := tf (d5 [1, 1, 1, 1, 1, 1, 1, 1, 1, 1, 1, 1, 1, 0, 1, 4, 5]) Mg ep
noncomputable def SN : KK := dv 713623846352979940529142984724747568189136127 IE
noncomputable def fD (x8 x9 x13 x17 x21 : Value) (H : AH) : OV := IE (ls [u, u, u, u, u, u, u, u, x8, x9, u, u, u, x13, u, u, u, x17, u, u, u, x21] 127) H
noncomputable def SU : KK := CQ (d5 [1, 1, 1, 1, 1, 1, 1, 1, 1, 1, 1, 1, 1, 0, 1, 4, 5, 1]) SN Mg ep
noncomputable def mI (x8 x9 x13 x17 x21 : Value) (H : AH) : OV := SU (ls [u, u, u, u, u, u, u, u, x8, x9, u, u, u, x13, u, u, u, x17, u, u, u, x21] 127) H
noncomputable def IF : KK := CQ (d5 [1, 1, 1, 1, 1, 1, 1, 1, 1, 1, 1, 1, 1, 0, 1, 4, 5, 1, 1]) SN Mg ep
noncomputable def ZB : KK := dv 713623846352979940529142984724747568189136127 IF
noncomputable def mJ (x8 x9 x13 x17 x21 : Value) (H : AH) : OV := IF (ls [u, u, u, u, u, u, u, u, x8, x9, u, u, u, x13, u, u, u, x17, u, u, u, x21] 127) H
noncomputable def ZF : KX := BX 7 ZB Mg
noncomputable def tF (x8 : Value) (H : AH) : OV := Tg 6 (ls [u, u, u, u, u, u, u, u, x8] 140) H
noncomputable def SX : KK := CQ (d5 [1, 1, 1, 1, 1, 1, 1, 1, 1, 1, 1, 0, 1]) YA bx ep
noncomputable def mK (x3 x8 x9 x13 x17 x18 : Value) (H : AH) : OV := SX (ls [u, u, u, x3, u, u, u, u, x8, x9, u, u, u, x13, u, u, u, x17, x18] 130) H
noncomputable def IM : KX := BX 4 YA bx
noncomputable def CI : KX := py 713623846352979940529142984724747568191233279 IM
noncomputable def IG : KK := tf (d5 [1, 1, 1, 1, 1, 1, 1, 1, 1, 1, 1, 0, 1, 4, 5]) CI ep
noncomputable def SO : KK := dv 713623846352979940529142984724747568190971127 IG
noncomputable def fE (x3 x8 x9 x13 x17 x18 : Value) (H : AH) : OV := IG (ls [u, u, u, x3, u, u, u, u, x8, x9, u, u, u, x13, u, u, u, x17, x18] 130) H
noncomputable def SZ : KK := CQ (d5 [1, 1, 1, 1, 1, 1, 1, 1, 1, 1, 1, 0, 1, 4, 5, 1]) SO CI ep
noncomputable def mL (x3 x8 x9 x13 x17 x18 : Value) (H : AH) : OV := SZ (ls [u, u, u, x3, u, u, u, u, x8, x9, u, u, u, x13, u, u, u, x17, x18] 130) H
noncomputable def IH : KK := CQ (d5 [1, 1, 1, 1, 1, 1, 1, 1, 1, 1, 1, 0, 1, 4, 5, 1, 1]) SO CI ep
noncomputable def ZC : KK := dv 713623846352979940529142984724747568190971127 IH
noncomputable def mM (x3 x8 x9 x13 x17 x18 : Value) (H : AH) : OV := IH (ls [u, u, u, x3, u, u, u, u, x8, x9, u, u, u, x13, u, u, u, x17, x18] 130) H
noncomputable def ZG : KX := BX 5 ZC CI
noncomputable def kq (x8 x9 x13 x17 : Value) (H : AH) : OV := IM 4 (ls [u, u, u, u, u, u, u, u, x8, x9, u, u, u, x13, u, u, u, x17] 131) H
noncomputable def S5 : KK := CQ (d5 [1, 1, 1, 1, 1, 1, 1, 0, 1]) Yz bx ep
noncomputable def mN (x3 x8 x9 x11 x13 x15 : Value) (H : AH) : OV := S5 (ls [u, u, u, x3, u, u, u, u, x8, x9, u, x11, u, x13, u, x15] 133) H
noncomputable def IN : KX := BX 2 Yz bx
noncomputable def CJ : KX := py 713623846352979940529142984724747568191362295 IN
noncomputable def II : KK := tf (d5 [1, 1, 1, 1, 1, 1, 1, 0, 1, 4, 5]) CJ ep
noncomputable def SQ : KK := dv 713623846352979940529142984724747568191329527 II
noncomputable def cX (x3 x8 x9 x11 x13 x15 : Value) (H : AH) : OV := II (ls [u, u, u, x3, u, u, u, u, x8, x9, u, x11, u, x13, u, x15] 133) H
noncomputable def S7 : KK := CQ (d5 [1, 1, 1, 1, 1, 1, 1, 0, 1, 4, 5, 1]) SQ CJ ep
noncomputable def mO (x3 x8 x9 x11 x13 x15 : Value) (H : AH) : OV := S7 (ls [u, u, u, x3, u, u, u, u, x8, x9, u, x11, u, x13, u, x15] 133) H
noncomputable def IJ : KK := CQ (d5 [1, 1, 1, 1, 1, 1, 1, 0, 1, 4, 5, 1, 1]) SQ CJ ep
noncomputable def ZD : KK := dv 713623846352979940529142984724747568191329527 IJ
noncomputable def mP (x3 x8 x9 x11 x13 x15 : Value) (H : AH) : OV := IJ (ls [u, u, u, x3, u, u, u, u, x8, x9, u, x11, u, x13, u, x15] 133) H
noncomputable def ZH : KX := BX 3 ZD CJ
noncomputable def ks (x3 x8 x9 x11 x13 : Value) (H : AH) : OV := IN 2 (ls [u, u, u, x3, u, u, u, u, x8, x9, u, x11, u, x13] 135) H
noncomputable def S9 : KK := CQ (d5 [1, 1, 1, 1, 1, 0, 1]) Yy bx ep
noncomputable def mQ (x2 x3 x8 x9 x11 x12 : Value) (H : AH) : OV := S9 (ls [u, u, x2, x3, u, u, u, u, x8, x9, u, x11, x12] 136) H
noncomputable def IO : KX := BX 0 Yy bx
noncomputable def CM : KX := py 713623846352979940529142984724747568191370487 IO
noncomputable def IK : KK := tf (d5 [1, 1, 1, 1, 1, 0, 1, 4, 5]) CM ep
noncomputable def SR : KK := dv 713623846352979940529142984724747568191366387 IK
noncomputable def fF (x2 x3 x8 x9 x11 x12 : Value) (H : AH) : OV := IK (ls [u, u, x2, x3, u, u, u, u, x8, x9, u, x11, x12] 136) H
noncomputable def Tb : KK := CQ (d5 [1, 1, 1, 1, 1, 0, 1, 4, 5, 1]) SR CM ep
noncomputable def mR (x2 x3 x8 x9 x11 x12 : Value) (H : AH) : OV := Tb (ls [u, u, x2, x3, u, u, u, u, x8, x9, u, x11, x12] 136) H
noncomputable def IL : KK := CQ (d5 [1, 1, 1, 1, 1, 0, 1, 4, 5, 1, 1]) SR CM ep
noncomputable def ZE : KK := dv 713623846352979940529142984724747568191366387 IL
noncomputable def mS (x2 x3 x8 x9 x11 x12 : Value) (H : AH) : OV := IL (ls [u, u, x2, x3, u, u, u, u, x8, x9, u, x11, x12] 136) H
noncomputable def ZI : KX := BX 1 ZE CM
noncomputable def ku (x3 x8 x9 x11 : Value) (H : AH) : OV := IO 0 (ls [u, u, u, x3, u, u, u, u, x8, x9, u, x11] 137) H
theorem bO : au 713623846352979940529142984724747568191373055 ep := rf
theorem Xw : au 713623846352979940529142984724747568191370483 YC := rc bO aC bO
theorem CE : au 713623846352979940529142984724747568191370487 ST := rc bO aC bO
theorem Xx : au 713623846352979940529142984724747568191362295 YD := rc bO aC bO
theorem CF : au 713623846352979940529142984724747568191362295 SW := rc bO aC bO
theorem Xy : au 713623846352979940529142984724747568191233271 YE := rc bO aC bO
theorem CG : au 713623846352979940529142984724747568191233279 S4 := rc bO aC bO
theorem Xz : au 713623846352979940529142984724747568191233279 YF := rc bO aC bO
theorem CH : au 713623846352979940529142984724747568191373055 YG := rc bO aC bO
theorem XA : au 713623846352979940529142984724747568189136127 YH := rc (cd CH) aC bO
theorem rH : ∀ i, au 713623846352979940529142984724747568191373055 (Tg i) := rb (cd CH) aC
theorem rD : au 713623846352979940529142984724747568189136127 IE := rl (cx rH) bO
theorem SV : au 713623846352979940529142984724747568189136127 SU := rc (cd rD) (cx rH) bO
theorem Fp : au 713623846352979940529142984724747568189136127 IF := rc (cd rD) (cx rH) bO
theorem Td : ∀ i, au 713623846352979940529142984724747568189136127 (ZF i) := rb (cd Fp) (cx rH)
theorem SY : au 713623846352979940529142984724747568190971127 SX := rc (cd CG) aC bO
theorem nA : ∀ i, au 713623846352979940529142984724747568191233279 (IM i) := rb (cd CG) aC
theorem rE : au 713623846352979940529142984724747568190971127 IG := rl (cx nA) bO
theorem S3 : au 713623846352979940529142984724747568190971127 SZ := rc (cd rE) (cx nA) bO
theorem Fq : au 713623846352979940529142984724747568190971127 IH := rc (cd rE) (cx nA) bO
theorem Te : ∀ i, au 713623846352979940529142984724747568190971127 (ZG i) := rb (cd Fq) (cx nA)
theorem S6 : au 713623846352979940529142984724747568191329527 S5 := rc (cd CF) aC bO
theorem nB : ∀ i, au 713623846352979940529142984724747568191362295 (IN i) := rb (cd CF) aC
theorem rF : au 713623846352979940529142984724747568191329527 II := rl (cx nB) bO
theorem S8 : au 713623846352979940529142984724747568191329527 S7 := rc (cd rF) (cx nB) bO
theorem Fs : au 713623846352979940529142984724747568191329527 IJ := rc (cd rF) (cx nB) bO
theorem Tf : ∀ i, au 713623846352979940529142984724747568191329527 (ZH i) := rb (cd Fs) (cx nB)
theorem Ta : au 713623846352979940529142984724747568191366387 S9 := rc (cd CE) aC bO
theorem nC : ∀ i, au 713623846352979940529142984724747568191370487 (IO i) := rb (cd CE) aC
theorem rG : au 713623846352979940529142984724747568191366387 IK := rl (cx nC) bO
theorem Tc : au 713623846352979940529142984724747568191366387 Tb := rc (cd rG) (cx nC) bO
theorem Ft : au 713623846352979940529142984724747568191366387 IL := rc (cd rG) (cx nC) bO
theorem Th : ∀ i, au 713623846352979940529142984724747568191366387 (ZI i) := rb (cd Ft) (cx nC)
theorem qg (x8 x9 x13 x17 x21 : Value) (H : AH) : mJ x8 x9 x13 x17 x21 H =
 (aj .other .add x21 (vi 1)).bind fun v13 =>
 fD x8 x9 x13 x17 v13 H :=
 (by kernel_rfl)
theorem jL (x8 x9 x13 x17 x21 : Value) (H : AH) : mI x8 x9 x13 x17 x21 H =
 (FF lH [x17, x13] H).bind fun r15 =>
 (ai r15.1 0).bind fun v16 =>
 (ai r15.1 1).bind fun v17 =>
 aY [(vi 0), (.slice none 0 0), (vi 0), (vw 0)] r15.2 fun v18 H19 =>
 (cW 4 v18 v16 H19).bind fun H20 =>
 ax v17
 (ld [.f 0] x9 H20 fun v21 =>
 (FF ME [v21] H20).bind fun r22 =>
 (aj .other .geq x21 (vi 3)).bind fun v23 =>
 (gB v23 true (aA 4 v18 r22.2)).bind fun v24 =>
 (wa (yv v23) true (gk [(0, 1), (1, 1), (2, 1), (3, 1)] [(vi 0), (.slice none 0 0), (vi 0), (vw 0)] [(0, (vi 9))] some) (some undef)).bind fun v25 =>
 (gE v23 true r22.2 (FF jR [v24, v25] r22.2)).bind fun r26 =>
 (aS v23 r26.1 (vb false)).bind fun v27 =>
 (gV v27 true r22.1).bind fun v28 =>
 (wa (yv v27) true (iN v28 some) (some undef)).bind fun v29 =>
 (gB v27 true (aj .other .eql v29 (vi 3))).bind fun v30 =>
 (aS v27 v30 (vb false)).bind fun v31 =>
 (gV v31 true r22.1).bind fun v32 =>
 kU v31 true  7 [.i 7 (vi 2)] v32 r26.2 fun v33 =>
 (gV v31 true x13).bind fun v34 =>
 (gB v31 true (aj .other .sub v34 (vi 1))).bind fun v35 =>
 (gB v31 true (aA 4 v18 r26.2)).bind fun v36 =>
 (wa (yv v31) true (gk [(0, 1), (1, 1), (2, 1), (3, 4)] [(vi 0), (vi 0), (vi 0), (vi 0), (.slice none 0 0), (vi 0), (vw 0)] [(0, v35), (1, (vi 0)), (2, (vi 2)), (3, v36)] some) (some undef)).bind fun v37 =>
 (gE v31 true r26.2 (FF mo [v33, v37] r26.2)).bind fun r38 =>
 (aS v31 r38.1 (vb false)).bind fun v39 =>
 some (v39, r38.2))
 ((aj .other .add x13 (vi 1)).bind fun v40 =>
 mJ x8 x9 v40 x17 x21 H20) :=
 (pt rfl 0 Fp (bt rfl (d5 [1, 1, 1, 1, 1, 1, 1, 1, 1, 1, 1, 1, 1, 0, 1, 4, 5, 1, 0, 4]) 7 Td (by kernel_rfl)))
theorem jK (x8 x9 x13 x17 x21 : Value) (H : AH) : fD x8 x9 x13 x17 x21 H =
 (aj .other .lss x21 (vi 9)).bind fun v41 =>
 ax v41
 (mI x8 x9 x13 x17 x21 H)
 (tF x8 H) :=
 th rfl rD (pt rfl 0 SV (by kernel_rfl))
theorem sa (x8 x9 x13 x17 x21 : Value) (H : AH) : nW x8 x9 x13 x17 x21 H =
 fD x8 x9 x13 x17 x21 H :=
 (bt rfl (d5 [1, 1, 1, 1, 1, 1, 1, 1, 1, 1, 1, 1, 1, 0, 1, 4]) 6 rH (li rfl (d5 [1, 1, 1, 1, 1, 1, 1, 1, 1, 1, 1, 1, 1, 0, 1, 4, 5]) rD (by kernel_rfl)))
theorem rZ (x8 x9 x13 x17 : Value) (H : AH) : nV x8 x9 x13 x17 H =
 nW x8 x9 x13 x17 (vi 0) H :=
 (pt rfl 0 CH (pt rfl 0 XA (by kernel_rfl)))
theorem rY (x8 x9 x13 x17 : Value) (H : AH) : nU x8 x9 x13 x17 H =
 ld [.f 0] x9 H fun v42 =>
 (FF cQ [v42, (vi 5)] H).bind fun r43 =>
 nV x8 x9 x13 x17 r43.2 :=
 (pt rfl 0 Xz (by kernel_rfl))
theorem qj (x3 x8 x9 x13 x17 x18 : Value) (H : AH) : mM x3 x8 x9 x13 x17 x18 H =
 (aj .other .add x18 (vi 1)).bind fun v49 =>
 fE x3 x8 x9 x13 x17 v49 H :=
 (by kernel_rfl)
theorem qi (x3 x8 x9 x13 x17 x18 : Value) (H : AH) : mL x3 x8 x9 x13 x17 x18 H =
 (FF lH [x17, x13] H).bind fun r51 =>
 (ai r51.1 0).bind fun v52 =>
 (ai r51.1 1).bind fun v53 =>
 aY [(vi 0), (.slice none 0 0), (vi 0), (vw 0)] r51.2 fun v54 H55 =>
 (cW 4 v54 v52 H55).bind fun H56 =>
 fp v53 false  [.f 0] x9 H56 fun v57 =>
 (gE v53 false H56 (FF ME [v57] H56)).bind fun r58 =>
 (wa (yv v53) false (iN r58.1 some) (some undef)).bind fun v59 =>
 (gB v53 false (aj .other .neq v59 (vi 2))).bind fun v60 =>
 (aS v53 (vb true) v60).bind fun v61 =>
 ax v61
 (some ((vb false), r58.2))
 ((aj .other .add x13 (vi 1)).bind fun v62 =>
 mM x3 x8 x9 v62 x17 x18 r58.2) :=
 (pt rfl 0 Fq (bt rfl (d5 [1, 1, 1, 1, 1, 1, 1, 1, 1, 1, 1, 0, 1, 4, 5, 1, 0, 4]) 5 Te (by kernel_rfl)))
theorem nM (x8 x9 x13 x17 : Value) (H : AH) : kq x8 x9 x13 x17 H = nU x8 x9 x13 x17 H :=
 (by kernel_rfl)
theorem jM (x3 x8 x9 x13 x17 x18 : Value) (H : AH) : fE x3 x8 x9 x13 x17 x18 H =
 (aj .other .lss x18 x3).bind fun v63 =>
 ax v63
 (mL x3 x8 x9 x13 x17 x18 H)
 (kq x8 x9 x13 x17 H) :=
 th rfl rE (pt rfl 0 S3 (by kernel_rfl))
theorem qh (x3 x8 x9 x13 x17 x18 : Value) (H : AH) : mK x3 x8 x9 x13 x17 x18 H =
 fE x3 x8 x9 x13 x17 x18 H :=
 (bt rfl (d5 [1, 1, 1, 1, 1, 1, 1, 1, 1, 1, 1, 0, 1, 4]) 4 nA (li rfl (d5 [1, 1, 1, 1, 1, 1, 1, 1, 1, 1, 1, 0, 1, 4, 5]) rE (by kernel_rfl)))
theorem rX (x3 x8 x9 x13 x17 : Value) (H : AH) : nT x3 x8 x9 x13 x17 H =
 mK x3 x8 x9 x13 x17 (vi 0) H :=
 (pt rfl 0 CG (pt rfl 0 SY (by kernel_rfl)))
theorem rW (x3 x8 x9 x11 x13 : Value) (H : AH) : nS x3 x8 x9 x11 x13 H =
 ld [.f 0] x9 H fun v64 =>
 (FF dr [v64, (vi 0), (vi 2)] H).bind fun r65 =>
 ld [.f 0] x9 r65.2 fun v66 =>
 (aA 4 x11 r65.2).bind fun v67 =>
 (FF pf [v66, (vi 0), v67] r65.2).bind fun r68 =>
 (aj .ptr .eql r68.1 (.pointer none)).bind fun v69 =>
 ax v69
 (some ((vb false), r68.2))
 (nT x3 x8 x9 x13 r68.1 r68.2) :=
 (pt rfl 2 Xy (by kernel_rfl))
theorem jO (x3 x8 x9 x11 x13 x15 : Value) (H : AH) : mP x3 x8 x9 x11 x13 x15 H =
 (aj .other .add x15 (vi 1)).bind fun v75 =>
 cX x3 x8 x9 x11 x13 v75 H :=
 (by kernel_rfl)
theorem jN (x3 x8 x9 x11 x13 x15 : Value) (H : AH) : mO x3 x8 x9 x11 x13 x15 H =
 aY [(vi 0), (.slice none 0 0), (vi 0), (vw 0)] H fun v77 H78 =>
 (aA 2 x9 H78).bind fun v79 =>
 (aA 4 x11 H78).bind fun v80 =>
 (FF UM [v79, (vi 0), x15, v80, x13, (vi 30)] H78).bind fun r81 =>
 (ai r81.1 0).bind fun v82 =>
 (ai r81.1 1).bind fun v83 =>
 (ai r81.1 2).bind fun v84 =>
 (cW 4 v77 v82 r81.2).bind fun H85 =>
 (pi .not v84).bind fun v86 =>
 fp v86 false  [.f 0] v77 H85 fun v87 =>
 (gB v86 false (aj .other .neq v87 (vi 0))).bind fun v88 =>
 (aS v86 (vb true) v88).bind fun v89 =>
 ax v89
 (some ((vb false), H85))
 (mP x3 x8 x9 x11 v83 x15 H85) :=
 (pt rfl 0 Fs (bt rfl (d5 [1, 1, 1, 1, 1, 1, 1, 0, 1, 4, 5, 1, 0, 4]) 3 Tf (by kernel_rfl)))
theorem nN (x3 x8 x9 x11 x13 : Value) (H : AH) : ks x3 x8 x9 x11 x13 H = nS x3 x8 x9 x11 x13 H :=
 (by kernel_rfl)
theorem fT (x3 x8 x9 x11 x13 x15 : Value) (H : AH) : cX x3 x8 x9 x11 x13 x15 H =
 (aj .other .lss x15 (vi 2)).bind fun v90 =>
 ax v90
 (mO x3 x8 x9 x11 x13 x15 H)
 (ks x3 x8 x9 x11 x13 H) :=
 th rfl rF (pt rfl 0 S8 (by kernel_rfl))
theorem qk (x3 x8 x9 x11 x13 x15 : Value) (H : AH) : mN x3 x8 x9 x11 x13 x15 H =
 cX x3 x8 x9 x11 x13 x15 H :=
 (bt rfl (d5 [1, 1, 1, 1, 1, 1, 1, 0, 1, 4]) 2 nB (li rfl (d5 [1, 1, 1, 1, 1, 1, 1, 0, 1, 4, 5]) rF (by kernel_rfl)))
theorem rV (x3 x8 x9 x11 x13 : Value) (H : AH) : nR x3 x8 x9 x11 x13 H =
 mN x3 x8 x9 x11 x13 (vi 0) H :=
 (pt rfl 0 CF (pt rfl 0 S6 (by kernel_rfl)))
theorem rU (x3 x8 x9 x11 : Value) (H : AH) : nQ x3 x8 x9 x11 H =
 nR x3 x8 x9 x11 (vi 0) H :=
 (pt rfl 0 Xx (by kernel_rfl))
theorem qn (x2 x3 x8 x9 x11 x12 : Value) (H : AH) : mS x2 x3 x8 x9 x11 x12 H =
 (aj .other .add x12 (vi 1)).bind fun v96 =>
 fF x2 x3 x8 x9 x11 v96 H :=
 (by kernel_rfl)
theorem qm (x2 x3 x8 x9 x11 x12 : Value) (H : AH) : mR x2 x3 x8 x9 x11 x12 H =
 ld [.f 0] x9 H fun v98 =>
 (FF cQ [v98, (vi 5)] H).bind fun r99 =>
 ld [.f 1] x9 r99.2 fun v100 =>
 (FF eN [v100, (vi 5)] r99.2).bind fun r101 =>
 mS x2 x3 x8 x9 x11 x12 r101.2 :=
 (pt rfl 0 Ft (bt rfl (d5 [1, 1, 1, 1, 1, 0, 1, 4, 5, 1, 0, 4]) 1 Th (by kernel_rfl)))
theorem nO (x3 x8 x9 x11 : Value) (H : AH) : ku x3 x8 x9 x11 H = nQ x3 x8 x9 x11 H :=
 (by kernel_rfl)
theorem jP (x2 x3 x8 x9 x11 x12 : Value) (H : AH) : fF x2 x3 x8 x9 x11 x12 H =
 (aj .other .lss x12 x2).bind fun v102 =>
 ax v102
 (mR x2 x3 x8 x9 x11 x12 H)
 (ku x3 x8 x9 x11 H) :=
 th rfl rG (pt rfl 0 Tc (by kernel_rfl))
theorem ql (x2 x3 x8 x9 x11 x12 : Value) (H : AH) : mQ x2 x3 x8 x9 x11 x12 H =
 fF x2 x3 x8 x9 x11 x12 H :=
 (bt rfl (d5 [1, 1, 1, 1, 1, 0, 1, 4]) 0 nC (li rfl (d5 [1, 1, 1, 1, 1, 0, 1, 4, 5]) rG (by kernel_rfl)))
theorem rT (x2 x3 x8 x9 x11 : Value) (H : AH) : nP x2 x3 x8 x9 x11 H =
 mQ x2 x3 x8 x9 x11 (vi 0) H :=
 (pt rfl 0 CE (pt rfl 0 Ta (by kernel_rfl)))
noncomputable def FM (x0 x1 x2 x3 : Value) (H : AH) : OV := aW PP GG FF (d5 []) (ls [x0, x1, x2, x3] 145) H ep bx ep
theorem yj (x0 x1 x2 x3 : Value) (H : AH) {r : Value × AH} (h : (
 aY (Value.cells x0).toList H fun v103 H104 =>
 (aA 5 v103 H104).bind fun v105 =>
 (FF qt [v105, (vi 1)] H104).bind fun r106 =>
 (ai r106.1 0).bind fun v107 =>
 (ai r106.1 1).bind fun v108 =>
 aY [(.pointer none), (.pointer none)] r106.2 fun v109 H110 =>
 (cW 2 v109 v107 H110).bind fun H111 =>
 (FF n4 [] H111).bind fun r112 =>
 (pi .not r112.1).bind fun v113 =>
 (gV v113 false v108).bind fun v114 =>
 (gB v113 false (pi .not v114)).bind fun v115 =>
 (aS v113 (vb true) v115).bind fun v116 =>
 ax v116
 (some ((vb false), r112.2))
 ((FF dm [x1, (vi 500)] r112.2).bind fun r117 =>
 (aj .other .add (vi 1) r117.1).bind fun v118 =>
 gk [(0, 1), (1, 1), (2, 1), (3, 1)] [(vi 0), (vi 0), (vi 0), (vi 0)] [(0, (vi 3)), (2, v118)] fun v119 =>
 aY [(vi 0), (vi 0), (vi 0), (vi 0)] r117.2 fun v120 H121 =>
 (cW 4 v120 v119 H121).bind fun H122 =>
 (FF dm [x2, (vi 5)] H122).bind fun r123 =>
 (aj .other .mul (vi 2) r123.1).bind fun v124 =>
 (aj .other .add (vi 1) v124).bind fun v125 =>
 (FF dm [x3, (vi 40)] r123.2).bind fun r126 =>
 (aj .other .add (vi 11) r126.1).bind fun v127 =>
 nP v125 v127 (vb false) v109 v120 r126.2)) = some r) : FF iy [x0, x1, x2, x3] H = some r :=
 fo (t := FM x0 x1 x2 x3 H) Tryz.func5 (by kernel_rfl) (Eq.trans (pt rfl 4 Xw (by kernel_rfl)) h)
noncomputable def pO (p : List Nat) : Code := Code.sub (bJ Tryz.f19) p
noncomputable def nw : KK := ei PP (Tryz.f19).results.toList
noncomputable def Sk : KK := CQ (pO [1, 1, 1, 1]) nw bx nw
noncomputable def Uw (x4 x5 x6 x12 x13 x14 x15 x16 : Value) (H : AH) : OV := Sk (ls [u, u, u, u, x4, x5, x6, u, u, u, u, u, x12, x13, x14, x15, x16] 79) H
noncomputable def Sn : KK := CQ (pO [1, 1, 1, 1, 1]) nw bx nw
noncomputable def Si : KK := dv 79228162514264337593543921647 Sn
noncomputable def So : KK := CQ (pO [1, 1, 1, 1, 0, 1]) Si bx nw
noncomputable def Ux (x4 x5 x6 x12 x13 x14 x15 x16 x17 : Value) (H : AH) : OV := So (ls [u, u, u, u, x4, x5, x6, u, u, u, u, u, x12, x13, x14, x15, x16, x17] 78) H
noncomputable def IB : KX := BX 0 Si bx
noncomputable def Cy : KX := py 79228162514264337593543921647 IB
noncomputable def Iz : KK := tf (pO [1, 1, 1, 1, 0, 1, 4, 5]) Cy nw
noncomputable def Sj : KK := dv 79228162514264337593543692175 Iz
noncomputable def C3 (x4 x5 x6 x12 x13 x14 x15 x16 x17 : Value) (H : AH) : OV := Iz (ls [u, u, u, u, x4, x5, x6, u, u, u, u, u, x12, x13, x14, x15, x16, x17] 78) H
noncomputable def Sr : KK := CQ (pO [1, 1, 1, 1, 0, 1, 4, 5, 1]) Sj Cy nw
noncomputable def Uy (x4 x5 x6 x12 x13 x14 x15 x16 x17 : Value) (H : AH) : OV := Sr (ls [u, u, u, u, x4, x5, x6, u, u, u, u, u, x12, x13, x14, x15, x16, x17] 78) H
noncomputable def IA : KK := CQ (pO [1, 1, 1, 1, 0, 1, 4, 5, 1, 1]) Sj Cy nw
noncomputable def Zy : KK := dv 79228162514264337593543692175 IA
noncomputable def Uz (x4 x5 x6 x12 x13 x14 x15 x16 x17 : Value) (H : AH) : OV := IA (ls [u, u, u, u, x4, x5, x6, u, u, u, u, u, x12, x13, x14, x15, x16, x17] 78) H
noncomputable def Xq : KX := BX 1 Zy Cy
noncomputable def Uv (x4 x12 x13 x14 : Value) (H : AH) : OV := IB 0 (ls [u, u, u, u, x4, u, u, u, u, u, u, u, x12, x13, x14] 81) H
theorem ko : au 79228162514264337593543921663 nw := rf
theorem Sm : au 79228162514264337593543823247 Sk := rc ko aC ko
theorem xK : au 79228162514264337593543921647 Sn := rc ko aC ko
theorem Sq : au 79228162514264337593543692175 So := rc (cd xK) aC ko
theorem ny : ∀ i, au 79228162514264337593543921647 (IB i) := rb (cd xK) aC
theorem rB : au 79228162514264337593543692175 Iz := rl (cx ny) ko
theorem Ss : au 79228162514264337593543692175 Sr := rc (cd rB) (cx ny) ko
theorem Fm : au 79228162514264337593543692175 IA := rc (cd rB) (cx ny) ko
theorem OU : ∀ i, au 79228162514264337593543692175 (Xq i) := rb (cd Fm) (cx ny)
theorem Px (x4 x5 x6 x12 x13 x14 x15 x16 x17 : Value) (H : AH) : Uz x4 x5 x6 x12 x13 x14 x15 x16 x17 H =
 (aj .other .add x17 (vi 1)).bind fun v10 =>
 C3 x4 x5 x6 x12 x13 x14 x15 x16 v10 H :=
 (by kernel_rfl)
theorem Pw (x4 x5 x6 x12 x13 x14 x15 x16 x17 : Value) (H : AH) : Uy x4 x5 x6 x12 x13 x14 x15 x16 x17 H =
 (aj .other .add x4 x17).bind fun v12 =>
 (FF lH [x15, v12] H).bind fun r13 =>
 (ai r13.1 0).bind fun v14 =>
 (ai r13.1 1).bind fun v15 =>
 aY [(vi 0), (.slice none 0 0), (vi 0), (vw 0)] r13.2 fun v16 H17 =>
 (cW 4 v16 v14 H17).bind fun H18 =>
 (aj .other .add x4 x17).bind fun v19 =>
 (FF de [x16, v19] H18).bind fun r20 =>
 (aj .bool .neq v15 r20.1).bind fun v21 =>
 (gB v21 false (aA 4 v16 r20.2)).bind fun v22 =>
 (gV v21 false x16).bind fun v23 =>
 (gV v21 false r20.1).bind fun v24 =>
 (gE v21 false r20.2 (FF qu [v23, v24] r20.2)).bind fun r25 =>
 bE (aA 4 v16 r25.2) (aA 4 v16 r20.2) <|
 (gE v21 false r25.2 (FF jR [v22, r25.1] r25.2)).bind fun r26 =>
 (gB v21 false (pi .not r26.1)).bind fun v27 =>
 (aS v21 (vb true) v27).bind fun v28 =>
 fp v28 false  [.f 0] x6 r26.2 fun v29 =>
 fp v28 false  [.n, .f 0] v29 r26.2 fun v30 =>
 (gE v28 false r26.2 (FF fy [v30] r26.2)).bind fun r31 =>
 zU v28 false  [.f 1] x6 fun v32 =>
 (gB v28 false (ar v32 r31.2)).bind fun v33 =>
 bE (ar v32 r26.2) (ar v32 r31.2) <|
 zU v28 false  [.n, .f 5] v33 fun v34 =>
 (gB v28 false (ar v34 r31.2)).bind fun v35 =>
 bE (ar v34 r26.2) (ar v34 r31.2) <|
 zU v28 false  [.n, .f 2] v35 fun v36 =>
 (gB v28 false (ar v36 r31.2)).bind fun v37 =>
 bE (ar v36 r26.2) (ar v36 r31.2) <|
 (wa (yv v28) false (iN v37 some) (some undef)).bind fun v38 =>
 bE (XK v37) (XK v37) <|
 (gB v28 false (aj .other .neq r31.1 v38)).bind fun v39 =>
 (aS v28 (vb true) v39).bind fun v40 =>
 ax v40
 (gk [(0, 1), (1, 1), (2, 1), (3, 1)] [(vi 0), (.slice none 0 0), (vi 0), (vw 0)] [] fun v41 =>
 (cW 4 x12 v41 r31.2).bind fun H42 =>
 (aA 4 x12 H42).bind fun v43 => some (Value.tuple #[v43, x4, (vb false)], H42))
 (ax r20.1
 ((aA 4 v16 r31.2).bind fun v44 =>
 (aj .other .add x4 x17).bind fun v45 =>
 (aj .other .add v45 (vi 1)).bind fun v46 =>
 (cW 4 x12 v44 r31.2).bind fun H47 =>
 (aA 4 x12 H47).bind fun v48 => some (Value.tuple #[v48, v46, (vb true)], H47))
 (Uz x4 x5 x6 x12 x13 x14 x15 x16 x17 r31.2)) :=
 (pt rfl 0 Fm (bt rfl (pO [1, 1, 1, 1, 0, 1, 4, 5, 1, 0, 4]) 1 OU (by kernel_rfl)))
theorem Pv (x4 x5 x6 x12 x13 x14 x15 x16 x17 : Value) (H : AH) : C3 x4 x5 x6 x12 x13 x14 x15 x16 x17 H =
 (aj .other .lss x17 x5).bind fun v49 =>
 ax v49
 (Uy x4 x5 x6 x12 x13 x14 x15 x16 x17 H)
 (Uv x4 x12 x13 x14 H) :=
 th rfl rB (pt rfl 0 Ss (by kernel_rfl))
theorem Pu (x4 x5 x6 x12 x13 x14 x15 x16 x17 : Value) (H : AH) : Ux x4 x5 x6 x12 x13 x14 x15 x16 x17 H =
 C3 x4 x5 x6 x12 x13 x14 x15 x16 x17 H :=
 (bt rfl (pO [1, 1, 1, 1, 0, 1, 4]) 0 ny (li rfl (pO [1, 1, 1, 1, 0, 1, 4, 5]) rB (by kernel_rfl)))
theorem Ps (x4 x5 x6 x12 x13 x14 x15 x16 : Value) (H : AH) : Uw x4 x5 x6 x12 x13 x14 x15 x16 H =
 Ux x4 x5 x6 x12 x13 x14 x15 x16 (vi 0) H :=
 (pt rfl 0 xK (pt rfl 0 Sq (by kernel_rfl)))
noncomputable def lAl (x0 x1 x2 x3 x4 x5 : Value) (H : AH) : OV := aW PP GG FF (pO []) (ls [x0, x1, x2, x3, x4, x5] 90) H nw bx nw
theorem ZT (x0 x1 x2 x3 x4 x5 : Value) (H : AH) {r : Value × AH} (h : (
 aY (Value.cells x0).toList H fun v50 H51 =>
 aY (Value.cells x3).toList H51 fun v52 H53 =>
 aY [(vi 0), (.slice none 0 0), (vi 0), (vw 0)] H53 fun v54 H55 =>
 (aA 2 v50 H55).bind fun v56 =>
 (FF ig [v56, x1, x2] H55).bind fun r57 =>
 ld [.f 0] v50 r57.2 fun v58 =>
 (aA 4 v52 r57.2).bind fun v59 =>
 (FF pf [v58, x1, v59] r57.2).bind fun r60 =>
 ad [.f 1] v50 fun v61 =>
 (ar v61 r60.2).bind fun v62 =>
 bE (ar v61 r57.2) (ar v61 r60.2) <|
 (aA 4 v52 r60.2).bind fun v63 =>
 bE (aA 4 v52 r57.2) (aA 4 v52 r60.2) <|
 (FF lg [v62, x1, v63] r60.2).bind fun r64 =>
 (aj .ptr .eql r60.1 (.pointer none)).bind fun v65 =>
 ax v65
 (gk [(0, 1), (1, 1), (2, 1), (3, 1)] [(vi 0), (.slice none 0 0), (vi 0), (vw 0)] [] fun v66 =>
 (cW 4 v54 v66 r64.2).bind fun H67 =>
 (aA 4 v54 H67).bind fun v68 => some (Value.tuple #[v68, x4, (vb false)], H67))
 (Uw x4 x5 v50 v54 (vi 0) (vb false) r60.1 r64.1 r64.2)) = some r) : FF UM [x0, x1, x2, x3, x4, x5] H = some r :=
 fo (t := lAl x0 x1 x2 x3 x4 x5 H) Tryz.func19 (by kernel_rfl) (Eq.trans (pt rfl 3 Sm (by kernel_rfl)) h)
theorem pF (x0 x1 : Value) (H : AH) {r : Value × AH} (h : (
 ld [.n, .f 0] x0 H fun v0 =>
 gk [(0, 1), (1, 1), (2, 1)] [(vi 0), (vi 0), (vi 0)] [(0, (vi 2))] fun v1 =>
 (FF dY [v0, x1, v1, (vw 1)] H).bind fun r2 =>
 some (Value.tuple #[], r2.2)) = some r) : FF cQ [x0, x1] H = some r :=
 fo Tryz.func22 (by kernel_rfl) h
theorem sK (x0 x1 : Value) (H : AH) {r : Value × AH} (h : (
 ad [.n, .f 5] x0 fun v0 =>
 (ar v0 H).bind fun v1 =>
 (FF bF [(vi 2), (vi 0), (vi 0)] H).bind fun r2 =>
 bE (ar v0 r2.2) (ar v0 H) <|
 (FF fA [v1, x1, r2.1, (vw 1)] r2.2).bind fun r3 =>
 some (Value.tuple #[], r3.2)) = some r) : FF eN [x0, x1] H = some r :=
 fo Tryz.func23 (by kernel_rfl) h
theorem og (x0 x1 : Value) (H : AH) {r : Value × AH} (h : (
 aY (Value.cells x0).toList H fun v0 H1 =>
 aY (Value.cells x1).toList H1 fun v2 H3 =>
 ld [.f 0] v0 H3 fun v4 =>
 ld [.f 0] v2 H3 fun v5 =>
 (FF hM [v4, v5] H3).bind fun r6 =>
 some (r6.1, r6.2)) = some r) : FF cJ [x0, x1] H = some r :=
 fo Tryz.func38 (by kernel_rfl) h
theorem sc (x0 x1 x2 : Value) (H : AH) {r : Value × AH} (h : (
 aY (Value.cells x0).toList H fun v0 H1 =>
 ld [.f 0] v0 H1 fun v2 =>
 (FF dr [v2, x1, x2] H1).bind fun r3 =>
 ld [.f 1] v0 r3.2 fun v4 =>
 (FF gA [v4, x1, x2] r3.2).bind fun r5 =>
 some (Value.tuple #[], r5.2)) = some r) : FF ig [x0, x1, x2] H = some r :=
 fo Tryz.func41 (by kernel_rfl) h
theorem yP (x0 x1 x2 : Value) (H : AH) {r : Value × AH} (h : (
 aY (Value.cells x2).toList H fun v0 H1 =>
 (aA 4 v0 H1).bind fun v2 =>
 gk [(0, 1), (1, 1), (2, 4), (6, 1), (7, 1), (8, 1), (9, 1), (10, 1), (11, 1), (12, 1), (13, 1), (14, 1), (15, 1), (16, 1), (17, 4), (21, 1), (22, 1), (23, 1), (24, 1), (25, 1), (26, 3), (29, 1), (30, 4)] [(.pointer none), (vi 0), (vi 0), (vi 0), (vi 0), (vi 0), (vi 0), (vi 0), (vi 0), (vb false), (vi 0), (vw 0), (vw 0), (vw 0), (vw 0), (vw 0), (vi 0), (vi 0), (.slice none 0 0), (vi 0), (vw 0), (vi 0), (vi 0), (.slice none 0 0), (vw 0), (vw 0), (vi 0), (vi 0), (vi 0), (vb false), (vi 0), (.slice none 0 0), (vi 0), (vw 0)] [(0, x0), (1, x1), (2, v2), (5, (vi (-1)))] fun v3 =>
 aY (Value.cells v3).toList H1 fun v4 H5 =>
 some (v4, H5)) = some r) : FF lg [x0, x1, x2] H = some r :=
 fo Tryz.func42 (by kernel_rfl) h
noncomputable def bS (p : List Nat) : Code := Code.sub (bJ Tryz.f43) p
noncomputable def en : KK := ei PP (Tryz.f43).results.toList
noncomputable def SD : KK := CQ (bS [1, 1, 1]) en bx en
noncomputable def JF (x0 x1 x4 x5 x6 x7 : Value) (H : AH) : OV := SD (ls [x0, x1, u, u, x4, x5, x6, x7] 297) H
noncomputable def SF : KK := CQ (bS [1, 1, 1, 1]) en bx en
noncomputable def JG (x0 x1 x4 x5 x6 x7 : Value) (H : AH) : OV := SF (ls [x0, x1, u, u, x4, x5, x6, x7] 297) H
noncomputable def ID : KK := CQ (bS [1, 1, 1, 1, 1]) en bx en
noncomputable def fg : KK := dv 65185151242703554760590262029100101153646988597309960020356494379340201592426774597868716015 ID
noncomputable def dF (x4 : Value) (H : AH) : OV := ID (ls [u, u, u, u, x4] 300) H
noncomputable def SH : KK := CQ (bS [1, 1, 1, 1, 0, 1]) fg bx en
noncomputable def mv (x0 x1 x4 x5 x6 x7 x93 : Value) (H : AH) : OV := SH (ls [x0, x1, u, u, x4, x5, x6, x7, u, u, u, u, u, u, u, u, u, u, u, u, u, u, u, u, u, u, u, u, u, u, u, u, u, u, u, u, u, u, u, u, u, u, u, u, u, u, u, u, u, u, u, u, u, u, u, u, u, u, u, u, u, u, u, u, u, u, u, u, u, u, u, u, u, u, u, u, u, u, u, u, u, u, u, u, u, u, u, u, u, u, u, u, u, x93] 211) H
noncomputable def SM : KX := BX 0 fg bx
noncomputable def gn : KX := py 65185151242703554760590262029100101153646988597309960020356494379340201592426774597868716015 SM
noncomputable def SK : KK := CQ (bS [1, 1, 1, 1, 0, 1, 4, 1]) fg gn en
noncomputable def JI (x0 x1 x4 x5 x6 x7 x93 x97 : Value) (H : AH) : OV := SK (ls [x0, x1, u, u, x4, x5, x6, x7, u, u, u, u, u, u, u, u, u, u, u, u, u, u, u, u, u, u, u, u, u, u, u, u, u, u, u, u, u, u, u, u, u, u, u, u, u, u, u, u, u, u, u, u, u, u, u, u, u, u, u, u, u, u, u, u, u, u, u, u, u, u, u, u, u, u, u, u, u, u, u, u, u, u, u, u, u, u, u, u, u, u, u, u, u, x93, u, u, u, x97] 207) H
noncomputable def L4 : KK := CQ (bS [1, 1, 1, 1, 0, 1, 4, 1, 3, 1]) fg gn en
noncomputable def MV (x0 x1 x4 x5 x6 x7 x93 x112 : Value) (H : AH) : OV := L4 (ls [x0, x1, u, u, x4, x5, x6, x7, u, u, u, u, u, u, u, u, u, u, u, u, u, u, u, u, u, u, u, u, u, u, u, u, u, u, u, u, u, u, u, u, u, u, u, u, u, u, u, u, u, u, u, u, u, u, u, u, u, u, u, u, u, u, u, u, u, u, u, u, u, u, u, u, u, u, u, u, u, u, u, u, u, u, u, u, u, u, u, u, u, u, u, u, u, x93, u, u, u, u, u, u, u, u, u, u, u, u, u, u, u, u, u, u, x112] 192) H
noncomputable def L5 : KK := CQ (bS [1, 1, 1, 1, 0, 1, 4, 1, 3, 1, 3, 1]) fg gn en
noncomputable def MW (x0 x1 x4 x5 x6 x7 x93 x133 : Value) (H : AH) : OV := L5 (ls [x0, x1, u, u, x4, x5, x6, x7, u, u, u, u, u, u, u, u, u, u, u, u, u, u, u, u, u, u, u, u, u, u, u, u, u, u, u, u, u, u, u, u, u, u, u, u, u, u, u, u, u, u, u, u, u, u, u, u, u, u, u, u, u, u, u, u, u, u, u, u, u, u, u, u, u, u, u, u, u, u, u, u, u, u, u, u, u, u, u, u, u, u, u, u, u, x93, u, u, u, u, u, u, u, u, u, u, u, u, u, u, u, u, u, u, u, u, u, u, u, u, u, u, u, u, u, u, u, u, u, u, u, u, u, u, u, x133] 171) H
noncomputable def L6 : KK := CQ (bS [1, 1, 1, 1, 0, 1, 4, 1, 3, 1, 3, 1, 3, 1]) fg gn en
noncomputable def MX (x0 x1 x4 x5 x6 x7 x93 x151 : Value) (H : AH) : OV := L6 (ls [x0, x1, u, u, x4, x5, x6, x7, u, u, u, u, u, u, u, u, u, u, u, u, u, u, u, u, u, u, u, u, u, u, u, u, u, u, u, u, u, u, u, u, u, u, u, u, u, u, u, u, u, u, u, u, u, u, u, u, u, u, u, u, u, u, u, u, u, u, u, u, u, u, u, u, u, u, u, u, u, u, u, u, u, u, u, u, u, u, u, u, u, u, u, u, u, x93, u, u, u, u, u, u, u, u, u, u, u, u, u, u, u, u, u, u, u, u, u, u, u, u, u, u, u, u, u, u, u, u, u, u, u, u, u, u, u, u, u, u, u, u, u, u, u, u, u, u, u, u, u, u, u, u, u, x151] 153) H
noncomputable def L7 : KK := CQ (bS [1, 1, 1, 1, 0, 1, 4, 1, 3, 1, 3, 1, 3, 1, 3, 1]) fg gn en
noncomputable def Dz (x0 x1 x4 x5 x6 x7 x93 x171 : Value) (H : AH) : OV := L7 (ls [x0, x1, u, u, x4, x5, x6, x7, u, u, u, u, u, u, u, u, u, u, u, u, u, u, u, u, u, u, u, u, u, u, u, u, u, u, u, u, u, u, u, u, u, u, u, u, u, u, u, u, u, u, u, u, u, u, u, u, u, u, u, u, u, u, u, u, u, u, u, u, u, u, u, u, u, u, u, u, u, u, u, u, u, u, u, u, u, u, u, u, u, u, u, u, u, x93, u, u, u, u, u, u, u, u, u, u, u, u, u, u, u, u, u, u, u, u, u, u, u, u, u, u, u, u, u, u, u, u, u, u, u, u, u, u, u, u, u, u, u, u, u, u, u, u, u, u, u, u, u, u, u, u, u, u, u, u, u, u, u, u, u, u, u, u, u, u, u, u, u, u, u, u, u, x171] 133) H
noncomputable def L8 : KK := CQ (bS [1, 1, 1, 1, 0, 1, 4, 1, 3, 1, 3, 1, 3, 1, 3, 1, 3, 1]) fg gn en
noncomputable def MY (x0 x1 x4 x5 x6 x7 x93 x186 : Value) (H : AH) : OV := L8 (ls [x0, x1, u, u, x4, x5, x6, x7, u, u, u, u, u, u, u, u, u, u, u, u, u, u, u, u, u, u, u, u, u, u, u, u, u, u, u, u, u, u, u, u, u, u, u, u, u, u, u, u, u, u, u, u, u, u, u, u, u, u, u, u, u, u, u, u, u, u, u, u, u, u, u, u, u, u, u, u, u, u, u, u, u, u, u, u, u, u, u, u, u, u, u, u, u, x93, u, u, u, u, u, u, u, u, u, u, u, u, u, u, u, u, u, u, u, u, u, u, u, u, u, u, u, u, u, u, u, u, u, u, u, u, u, u, u, u, u, u, u, u, u, u, u, u, u, u, u, u, u, u, u, u, u, u, u, u, u, u, u, u, u, u, u, u, u, u, u, u, u, u, u, u, u, u, u, u, u, u, u, u, u, u, u, u, u, u, u, u, x186] 118) H
noncomputable def L9 : KK := CQ (bS [1, 1, 1, 1, 0, 1, 4, 1, 3, 1, 3, 1, 3, 1, 3, 1, 3, 1, 3, 1]) fg gn en
noncomputable def DA (x0 x1 x4 x5 x6 x7 x93 x197 : Value) (H : AH) : OV := L9 (ls [x0, x1, u, u, x4, x5, x6, x7, u, u, u, u, u, u, u, u, u, u, u, u, u, u, u, u, u, u, u, u, u, u, u, u, u, u, u, u, u, u, u, u, u, u, u, u, u, u, u, u, u, u, u, u, u, u, u, u, u, u, u, u, u, u, u, u, u, u, u, u, u, u, u, u, u, u, u, u, u, u, u, u, u, u, u, u, u, u, u, u, u, u, u, u, u, x93, u, u, u, u, u, u, u, u, u, u, u, u, u, u, u, u, u, u, u, u, u, u, u, u, u, u, u, u, u, u, u, u, u, u, u, u, u, u, u, u, u, u, u, u, u, u, u, u, u, u, u, u, u, u, u, u, u, u, u, u, u, u, u, u, u, u, u, u, u, u, u, u, u, u, u, u, u, u, u, u, u, u, u, u, u, u, u, u, u, u, u, u, u, u, u, u, u, u, u, u, u, u, u, x197] 107) H
noncomputable def Ma : KK := CQ (bS [1, 1, 1, 1, 0, 1, 4, 1, 3, 1, 3, 1, 3, 1, 3, 1, 3, 1, 3, 1, 2, 1, 1]) fg gn en
noncomputable def MZ (x0 x4 x13 : Value) (H : AH) : OV := Ma (ls [x0, u, u, u, x4, u, u, u, u, u, u, u, u, x13] 291) H
noncomputable def Xv : KX := BX 1 fg gn
noncomputable def Mb : KK := CQ (bS [1, 1, 1, 1, 0, 1, 4, 1, 3, 1, 3, 1, 3, 1, 3, 1, 3, 1, 3, 1, 3, 1]) fg gn en
noncomputable def DB (x0 x1 x4 x5 x6 x7 x93 x242 : Value) (H : AH) : OV := Mb (ls [x0, x1, u, u, x4, x5, x6, x7, u, u, u, u, u, u, u, u, u, u, u, u, u, u, u, u, u, u, u, u, u, u, u, u, u, u, u, u, u, u, u, u, u, u, u, u, u, u, u, u, u, u, u, u, u, u, u, u, u, u, u, u, u, u, u, u, u, u, u, u, u, u, u, u, u, u, u, u, u, u, u, u, u, u, u, u, u, u, u, u, u, u, u, u, u, x93, u, u, u, u, u, u, u, u, u, u, u, u, u, u, u, u, u, u, u, u, u, u, u, u, u, u, u, u, u, u, u, u, u, u, u, u, u, u, u, u, u, u, u, u, u, u, u, u, u, u, u, u, u, u, u, u, u, u, u, u, u, u, u, u, u, u, u, u, u, u, u, u, u, u, u, u, u, u, u, u, u, u, u, u, u, u, u, u, u, u, u, u, u, u, u, u, u, u, u, u, u, u, u, u, u, u, u, u, u, u, u, u, u, u, u, u, u, u, u, u, u, u, u, u, u, u, u, u, u, u, u, u, u, u, u, u, u, u, u, u, u, u, u, u, u, u, u, u, x242] 62) H
noncomputable def Mc : KK := CQ (bS [1, 1, 1, 1, 0, 1, 4, 1, 3, 1, 3, 1, 3, 1, 3, 1, 3, 1, 3, 1, 3, 1, 3, 1]) fg gn en
noncomputable def sQ (x0 x1 x4 x5 x6 x7 x93 x248 : Value) (H : AH) : OV := Mc (ls [x0, x1, u, u, x4, x5, x6, x7, u, u, u, u, u, u, u, u, u, u, u, u, u, u, u, u, u, u, u, u, u, u, u, u, u, u, u, u, u, u, u, u, u, u, u, u, u, u, u, u, u, u, u, u, u, u, u, u, u, u, u, u, u, u, u, u, u, u, u, u, u, u, u, u, u, u, u, u, u, u, u, u, u, u, u, u, u, u, u, u, u, u, u, u, u, x93, u, u, u, u, u, u, u, u, u, u, u, u, u, u, u, u, u, u, u, u, u, u, u, u, u, u, u, u, u, u, u, u, u, u, u, u, u, u, u, u, u, u, u, u, u, u, u, u, u, u, u, u, u, u, u, u, u, u, u, u, u, u, u, u, u, u, u, u, u, u, u, u, u, u, u, u, u, u, u, u, u, u, u, u, u, u, u, u, u, u, u, u, u, u, u, u, u, u, u, u, u, u, u, u, u, u, u, u, u, u, u, u, u, u, u, u, u, u, u, u, u, u, u, u, u, u, u, u, u, u, u, u, u, u, u, u, u, u, u, u, u, u, u, u, u, u, u, u, u, u, u, u, u, u, x248] 56) H
noncomputable def Md : KK := CQ (bS [1, 1, 1, 1, 0, 1, 4, 1, 3, 1, 3, 1, 3, 1, 3, 1, 3, 1, 3, 1, 3, 1, 3, 1, 3, 1]) fg gn en
noncomputable def DC (x0 x1 x4 x5 x6 x93 x272 : Value) (H : AH) : OV := Md (ls [x0, x1, u, u, x4, x5, x6, u, u, u, u, u, u, u, u, u, u, u, u, u, u, u, u, u, u, u, u, u, u, u, u, u, u, u, u, u, u, u, u, u, u, u, u, u, u, u, u, u, u, u, u, u, u, u, u, u, u, u, u, u, u, u, u, u, u, u, u, u, u, u, u, u, u, u, u, u, u, u, u, u, u, u, u, u, u, u, u, u, u, u, u, u, u, x93, u, u, u, u, u, u, u, u, u, u, u, u, u, u, u, u, u, u, u, u, u, u, u, u, u, u, u, u, u, u, u, u, u, u, u, u, u, u, u, u, u, u, u, u, u, u, u, u, u, u, u, u, u, u, u, u, u, u, u, u, u, u, u, u, u, u, u, u, u, u, u, u, u, u, u, u, u, u, u, u, u, u, u, u, u, u, u, u, u, u, u, u, u, u, u, u, u, u, u, u, u, u, u, u, u, u, u, u, u, u, u, u, u, u, u, u, u, u, u, u, u, u, u, u, u, u, u, u, u, u, u, u, u, u, u, u, u, u, u, u, u, u, u, u, u, u, u, u, u, u, u, u, u, u, u, u, u, u, u, u, u, u, u, u, u, u, u, u, u, u, u, u, u, u, u, u, u, u, x272] 32) H
noncomputable def Me : KK := CQ (bS [1, 1, 1, 1, 0, 1, 4, 1, 3, 1, 3, 1, 3, 1, 3, 1, 3, 1, 3, 1, 3, 1, 3, 1, 3, 1, 3, 1]) fg gn en
noncomputable def M1 (x0 x1 x4 x5 x6 x93 x283 : Value) (H : AH) : OV := Me (ls [x0, x1, u, u, x4, x5, x6, u, u, u, u, u, u, u, u, u, u, u, u, u, u, u, u, u, u, u, u, u, u, u, u, u, u, u, u, u, u, u, u, u, u, u, u, u, u, u, u, u, u, u, u, u, u, u, u, u, u, u, u, u, u, u, u, u, u, u, u, u, u, u, u, u, u, u, u, u, u, u, u, u, u, u, u, u, u, u, u, u, u, u, u, u, u, x93, u, u, u, u, u, u, u, u, u, u, u, u, u, u, u, u, u, u, u, u, u, u, u, u, u, u, u, u, u, u, u, u, u, u, u, u, u, u, u, u, u, u, u, u, u, u, u, u, u, u, u, u, u, u, u, u, u, u, u, u, u, u, u, u, u, u, u, u, u, u, u, u, u, u, u, u, u, u, u, u, u, u, u, u, u, u, u, u, u, u, u, u, u, u, u, u, u, u, u, u, u, u, u, u, u, u, u, u, u, u, u, u, u, u, u, u, u, u, u, u, u, u, u, u, u, u, u, u, u, u, u, u, u, u, u, u, u, u, u, u, u, u, u, u, u, u, u, u, u, u, u, u, u, u, u, u, u, u, u, u, u, u, u, u, u, u, u, u, u, u, u, u, u, u, u, u, u, u, u, u, u, u, u, u, u, u, u, u, u, x283] 21) H
noncomputable def Mf : KK := CQ (bS [1, 1, 1, 1, 0, 1, 4, 1, 3, 1, 3, 1, 3, 1, 3, 1, 3, 1, 3, 1, 3, 1, 3, 1, 3, 1, 3, 1, 3, 1]) fg gn en
noncomputable def jf (x0 x1 x4 x6 x297 : Value) (H : AH) : OV := Mf (ls [x0, x1, u, u, x4, u, x6, u, u, u, u, u, u, u, u, u, u, u, u, u, u, u, u, u, u, u, u, u, u, u, u, u, u, u, u, u, u, u, u, u, u, u, u, u, u, u, u, u, u, u, u, u, u, u, u, u, u, u, u, u, u, u, u, u, u, u, u, u, u, u, u, u, u, u, u, u, u, u, u, u, u, u, u, u, u, u, u, u, u, u, u, u, u, u, u, u, u, u, u, u, u, u, u, u, u, u, u, u, u, u, u, u, u, u, u, u, u, u, u, u, u, u, u, u, u, u, u, u, u, u, u, u, u, u, u, u, u, u, u, u, u, u, u, u, u, u, u, u, u, u, u, u, u, u, u, u, u, u, u, u, u, u, u, u, u, u, u, u, u, u, u, u, u, u, u, u, u, u, u, u, u, u, u, u, u, u, u, u, u, u, u, u, u, u, u, u, u, u, u, u, u, u, u, u, u, u, u, u, u, u, u, u, u, u, u, u, u, u, u, u, u, u, u, u, u, u, u, u, u, u, u, u, u, u, u, u, u, u, u, u, u, u, u, u, u, u, u, u, u, u, u, u, u, u, u, u, u, u, u, u, u, u, u, u, u, u, u, u, u, u, u, u, u, u, u, u, u, u, u, u, u, u, u, u, u, u, u, u, u, u, u, u, u, u, u, u, u, x297] 7) H
theorem cF : au 65185151242703554760590262029100101153646988597309960020356494379340201592426774597868716015 en := rf
theorem SE : au 65185151242703554760590262029100101153646988597309960020356494379340201592426774597868715788 SD := rc cF aC cF
theorem SG : au 65185151242703554760590262029100101153646988597309960020356494379340201592426774597868715788 SF := rc cF aC cF
theorem cy : au 65185151242703554760590262029100101153646988597309960020356494379340201592426774597868716015 ID := rc cF aC cF
theorem SJ : au 65185151242703554760590262029100101153646988597309960020356494369436681278143732398675721996 SH := rc (cd cy) aC cF
theorem cP : ∀ i, au 65185151242703554760590262029100101153646988597309960020356494379340201592426774597868716015 (SM i) := rb (cd cy) aC
theorem SL : au 65185151242703554760590262029100101153646988597309960020356494210980356249615057211587821324 SK := rc (cd cy) (cx cP) cF
theorem O1 : au 65185151242703554760590262029100101153646988597309960020351302072578146450515201902346501900 L4 := rc (cd cy) (cx cP) cF
theorem O2 : au 65185151242703554760590262029100101153646988597309949131320752899405850450156294582092955404 L5 := rc (cd cy) (cx cP) cF
theorem O3 : au 65185151242703554760590262029100101153646988594455464634944574607320109339244742125910228748 L6 := rc (cd cy) (cx cP) cF
theorem O4 : au 65185151242703554760590262029100101153643995441956706331180013222899278330519477048827707148 L7 := rc (cd cy) (cx cP) cF
theorem O5 : au 65185151242703554760590262029100101055567273981893073085422284631816893526544428578925182732 L8 := rc (cd cy) (cx cP) cF
theorem O6 : au 65185151242703554760590262029099900286391456223525517275094951724111366002769509549571309324 L9 := rc (cd cy) (cx cP) cF
theorem O7 : au 65185151242703554760590262029100101153646988597309960020356494379340201592426774597868707822 Ma := rc (cd cy) (cx cP) cF
theorem Pd : ∀ i, au 65185151242703554760590262029100101153646988597309960020356494379340201592426774597868716015 (Xv i) := rb (cd cy) (cx cP)
theorem O8 : au 65185151242703554753522873769986563835313798594338285957046558781934205445657307593505242892 Mb := rc (cd cy) (cx cP) cF
theorem O9 : au 65185151242703554308277413445833712780322828407122819968520616769278227999012544867765059340 Mc := rc (cd cy) (cx cP) cF
theorem Pa : au 65185151235115004400333507845820953080117617868238058305309074364546789052601137534592876428 Md := rc (cd cy) (cx cP) cF
theorem Pb : au 65185135701352416954757694673404846565495735458055247603240324354937403366909450757007736716 Me := rc (cd cy) (cx cP) cF
theorem Pc : au 64930521745661743999806706318048928883515555048101717989026976823170903929956357509595791276 Mf := rc (cd cy) (cx cP) cF
theorem bG (x4 : Value) (H : AH) : dF x4 H =
 some ((vb false), H) :=
 (by kernel_rfl)
theorem JH (x0 x4 x13 : Value) (H : AH) : MZ x0 x4 x13 H =
 (FF bA [x0] H).bind fun r45 =>
 ad [.n, .f 11] x0 fun v46 =>
 (ar v46 r45.2).bind fun v47 =>
 bE (ar v46 H) (ar v46 r45.2) <|
 ad [.n, .f 12] x0 fun v48 =>
 (ar v48 r45.2).bind fun v49 =>
 bE (ar v48 H) (ar v48 r45.2) <|
 (FF fI [r45.1, v47, v49] r45.2).bind fun r50 =>
 ax r50.1
 (st 1 [.n, .f 6] x0 (vi 15) r50.2 fun H51 =>
 dF x4 H51)
 ((aj .other .eql x13 (vi 1)).bind fun v52 =>
 ax v52
 (st 1 [.n, .f 6] x0 (vi 9) r50.2 fun H53 =>
 dF x4 H53)
 (st 1 [.n, .f 6] x0 (vi 12) r50.2 fun H54 =>
 dF x4 H54)) :=
 (bt rfl (bS [1, 1, 1, 1, 0, 1, 4, 1, 3, 1, 3, 1, 3, 1, 3, 1, 3, 1, 3, 1, 2, 1, 1, 4]) 1 Pd (by kernel_rfl))
theorem j4 (x0 x1 x4 x6 x297 : Value) (H : AH) : jf x0 x1 x4 x6 x297 H =
 ax x297
 ((FF YZ [x0, x1] H).bind fun r90 =>
 some (r90.1, r90.2))
 ((FF UP [x0, x6] H).bind fun r91 =>
 some (r91.1, r91.2)) :=
 (by kernel_rfl)
theorem yX (x0 x1 x4 x5 x6 x93 x283 : Value) (H : AH) : M1 x0 x1 x4 x5 x6 x93 x283 H =
 ax x283
 (ld [.n, .f 6] x5 H fun v85 =>
 ld [.n, .f 1] x0 H fun v86 =>
 (FF gz [v85, v86] H).bind fun r87 =>
 st 1 [.n, .f 6] x0 (vi 13) r87.2 fun H88 =>
 dF x4 H88)
 ((aj .other .eql x93 (vi 15)).bind fun v92 =>
 ax v92
 (jf x0 x1 x4 x6 v92 H)
 ((aj .other .eql x93 (vi 16)).bind fun v93 =>
 ax v93
 (jf x0 x1 x4 x6 v93 H)
 ((aj .other .eql x93 (vi 17)).bind fun v94 =>
 ax v94
 (jf x0 x1 x4 x6 v94 H)
 ((aj .other .eql x93 (vi 18)).bind fun v95 =>
 jf x0 x1 x4 x6 v95 H)))) :=
 (ct rfl (bS [1, 1, 1, 1, 0, 1, 4, 1, 3, 1, 3, 1, 3, 1, 3, 1, 3, 1, 3, 1, 3, 1, 3, 1, 3, 1, 3, 1, 2]) (bS [1, 1, 1, 1, 0, 1, 4, 1, 3, 1, 3, 1, 3, 1, 3, 1, 3, 1, 3, 1, 3, 1, 3, 1, 3, 1, 3, 1, 3]) (.tmp 283) (by kernel_rfl) (pt rfl 0 Pc (by kernel_rfl)))
theorem qQ (x0 x1 x4 x5 x6 x93 x272 : Value) (H : AH) : DC x0 x1 x4 x5 x6 x93 x272 H =
 ax x272
 ((FF bA [x0] H).bind fun r79 =>
 ad [.n, .f 1] x0 fun v80 =>
 (ar v80 r79.2).bind fun v81 =>
 bE (ar v80 H) (ar v80 r79.2) <|
 (FF dC [x0] r79.2).bind fun r82 =>
 bE (ar v80 r82.2) (ar v80 r79.2) <|
 (FF fK [r79.1, v81, r82.1] r82.2).bind fun r83 =>
 some ((vb true), r83.2))
 ((aj .other .eql x93 (vi 12)).bind fun v96 =>
 M1 x0 x1 x4 x5 x6 x93 v96 H) :=
 (ct rfl (bS [1, 1, 1, 1, 0, 1, 4, 1, 3, 1, 3, 1, 3, 1, 3, 1, 3, 1, 3, 1, 3, 1, 3, 1, 3, 1, 2]) (bS [1, 1, 1, 1, 0, 1, 4, 1, 3, 1, 3, 1, 3, 1, 3, 1, 3, 1, 3, 1, 3, 1, 3, 1, 3, 1, 3]) (.tmp 272) (by kernel_rfl) (pt rfl 0 Pb (by kernel_rfl)))
theorem qP (x0 x1 x4 x5 x6 x7 x93 x248 : Value) (H : AH) : sQ x0 x1 x4 x5 x6 x7 x93 x248 H =
 ax x248
 ((FF bA [x0] H).bind fun r68 =>
 ad [.n, .f 1] x0 fun v69 =>
 (ar v69 r68.2).bind fun v70 =>
 bE (ar v69 H) (ar v69 r68.2) <|
 (FF dC [x0] r68.2).bind fun r71 =>
 bE (ar v69 r71.2) (ar v69 r68.2) <|
 (aA 3 x7 r71.2).bind fun v72 =>
 bE (aA 3 x7 H) (aA 3 x7 r71.2) <|
 bE (aA 3 x7 r68.2) (aA 3 x7 r71.2) <|
 (FF jZ [r68.1, v70, r71.1, v72] r71.2).bind fun r73 =>
 st 1 [.n, .f 6] x0 (vi 11) r73.2 fun H74 =>
 ld [.n, .f 13] x0 H74 fun v75 =>
 (aj .other .eql v75 (vw 1)).bind fun v76 =>
 ax v76
 (st 1 [.n, .f 6] x0 (vi 21) H74 fun H77 =>
 dF x4 H77)
 (dF x4 H74))
 ((aj .other .eql x93 (vi 11)).bind fun v97 =>
 DC x0 x1 x4 x5 x6 x93 v97 H) :=
 (ct rfl (bS [1, 1, 1, 1, 0, 1, 4, 1, 3, 1, 3, 1, 3, 1, 3, 1, 3, 1, 3, 1, 3, 1, 3, 1, 2]) (bS [1, 1, 1, 1, 0, 1, 4, 1, 3, 1, 3, 1, 3, 1, 3, 1, 3, 1, 3, 1, 3, 1, 3, 1, 3]) (.tmp 248) (by kernel_rfl) (pt rfl 0 Pa (by kernel_rfl)))
theorem qO (x0 x1 x4 x5 x6 x7 x93 x242 : Value) (H : AH) : DB x0 x1 x4 x5 x6 x7 x93 x242 H =
 ax x242
 ((FF ip [x0, x1] H).bind fun r66 =>
 dF x4 r66.2)
 ((aj .other .eql x93 (vi 10)).bind fun v98 =>
 ax v98
 (sQ x0 x1 x4 x5 x6 x7 x93 v98 H)
 ((aj .other .eql x93 (vi 14)).bind fun v99 =>
 sQ x0 x1 x4 x5 x6 x7 x93 v99 H)) :=
 (ct rfl (bS [1, 1, 1, 1, 0, 1, 4, 1, 3, 1, 3, 1, 3, 1, 3, 1, 3, 1, 3, 1, 3, 1, 2]) (bS [1, 1, 1, 1, 0, 1, 4, 1, 3, 1, 3, 1, 3, 1, 3, 1, 3, 1, 3, 1, 3, 1, 3]) (.tmp 242) (by kernel_rfl) (pt rfl 0 O9 (by kernel_rfl)))
theorem mw (x0 x1 x4 x5 x6 x7 x93 x197 : Value) (H : AH) : DA x0 x1 x4 x5 x6 x7 x93 x197 H =
 ax x197
 ((FF bA [x0] H).bind fun r55 =>
 ad [.n, .f 1] x0 fun v56 =>
 (ar v56 r55.2).bind fun v57 =>
 bE (ar v56 H) (ar v56 r55.2) <|
 (FF fJ [r55.1, v57] r55.2).bind fun r58 =>
 st 1 [.n, .f 12] x0 r58.1 r58.2 fun H59 =>
 ld [.n, .f 11] x0 H59 fun v60 =>
 (FF ez [v60] H59).bind fun r61 =>
 (ai r61.1 0).bind fun v62 =>
 (ai r61.1 1).bind fun v63 =>
 (ai r61.1 2).bind fun v64 =>
 MZ x0 x4 v63 r61.2)
 ((aj .other .eql x93 (vi 9)).bind fun v100 =>
 ax v100
 (DB x0 x1 x4 x5 x6 x7 x93 v100 H)
 ((aj .other .eql x93 (vi 13)).bind fun v101 =>
 DB x0 x1 x4 x5 x6 x7 x93 v101 H)) :=
 (ct rfl (bS [1, 1, 1, 1, 0, 1, 4, 1, 3, 1, 3, 1, 3, 1, 3, 1, 3, 1, 3, 1, 2]) (bS [1, 1, 1, 1, 0, 1, 4, 1, 3, 1, 3, 1, 3, 1, 3, 1, 3, 1, 3, 1, 3]) (.tmp 197) (pt rfl 1 O7 (by kernel_rfl)) (pt rfl 0 O8 (by kernel_rfl)))
theorem yW (x0 x1 x4 x5 x6 x7 x93 x186 : Value) (H : AH) : MY x0 x1 x4 x5 x6 x7 x93 x186 H =
 ax x186
 (st 1 [.n, .f 6] x0 (vi 8) H fun H38 =>
 (FF fL [x0] H38).bind fun r39 =>
 (aj .other .eql r39.1 (vi 2)).bind fun v40 =>
 ax v40
 (st 1 [.n, .f 6] x0 (vi 3) r39.2 fun H41 =>
 dF x4 H41)
 (dF x4 r39.2))
 ((aj .other .eql x93 (vi 8)).bind fun v102 =>
 DA x0 x1 x4 x5 x6 x7 x93 v102 H) :=
 (ct rfl (bS [1, 1, 1, 1, 0, 1, 4, 1, 3, 1, 3, 1, 3, 1, 3, 1, 3, 1, 2]) (bS [1, 1, 1, 1, 0, 1, 4, 1, 3, 1, 3, 1, 3, 1, 3, 1, 3, 1, 3]) (.tmp 186) (by kernel_rfl) (pt rfl 0 O6 (by kernel_rfl)))
theorem qN (x0 x1 x4 x5 x6 x7 x93 x171 : Value) (H : AH) : Dz x0 x1 x4 x5 x6 x7 x93 x171 H =
 ax x171
 (ld [.n, .f 1] x0 H fun v33 =>
 ld [.n, .f 10] x0 H fun v34 =>
 (FF iW [x5, v33, v34] H).bind fun r35 =>
 st 1 [.n, .f 6] x0 (vi 7) r35.2 fun H36 =>
 dF x4 H36)
 ((aj .other .eql x93 (vi 7)).bind fun v103 =>
 MY x0 x1 x4 x5 x6 x7 x93 v103 H) :=
 (ct rfl (bS [1, 1, 1, 1, 0, 1, 4, 1, 3, 1, 3, 1, 3, 1, 3, 1, 2]) (bS [1, 1, 1, 1, 0, 1, 4, 1, 3, 1, 3, 1, 3, 1, 3, 1, 3]) (.tmp 171) (by kernel_rfl) (pt rfl 0 O5 (by kernel_rfl)))
theorem yV (x0 x1 x4 x5 x6 x7 x93 x151 : Value) (H : AH) : MX x0 x1 x4 x5 x6 x7 x93 x151 H =
 ax x151
 (ld [.n, .f 7] x5 H fun v26 =>
 ld [.n, .f 1] x0 H fun v27 =>
 (FF fZ [v26, v27, x6] H).bind fun r28 =>
 ld [.n, .f 9] x0 r28.2 fun v29 =>
 (pi .not v29).bind fun v30 =>
 ax v30
 (some ((vb true), r28.2))
 (st 1 [.n, .f 6] x0 (vi 6) r28.2 fun H31 =>
 dF x4 H31))
 ((aj .other .eql x93 (vi 6)).bind fun v104 =>
 Dz x0 x1 x4 x5 x6 x7 x93 v104 H) :=
 (ct rfl (bS [1, 1, 1, 1, 0, 1, 4, 1, 3, 1, 3, 1, 3, 1, 2]) (bS [1, 1, 1, 1, 0, 1, 4, 1, 3, 1, 3, 1, 3, 1, 3]) (.tmp 151) (by kernel_rfl) (pt rfl 0 O4 (by kernel_rfl)))
theorem qM (x0 x1 x4 x5 x6 x7 x93 x133 : Value) (H : AH) : MW x0 x1 x4 x5 x6 x7 x93 x133 H =
 ax x133
 ((FF MF [x0] H).bind fun r19 =>
 (ai r19.1 0).bind fun v20 =>
 (ai r19.1 1).bind fun v21 =>
 ax v20
 (st 1 [.n, .f 6] x0 (vi 5) r19.2 fun H22 =>
 dF x4 H22)
 (ax v21
 ((FF ce [x0, x1, (vi 5)] r19.2).bind fun r23 =>
 st 1 [.n, .f 6] x0 (vi 5) r23.2 fun H24 =>
 dF x4 H24)
 (dF x4 r19.2)))
 ((aj .other .eql x93 (vi 5)).bind fun v105 =>
 MX x0 x1 x4 x5 x6 x7 x93 v105 H) :=
 (ct rfl (bS [1, 1, 1, 1, 0, 1, 4, 1, 3, 1, 3, 1, 2]) (bS [1, 1, 1, 1, 0, 1, 4, 1, 3, 1, 3, 1, 3]) (.tmp 133) (by kernel_rfl) (pt rfl 0 O3 (by kernel_rfl)))
theorem mu (x0 x1 x4 x5 x6 x7 x93 x112 : Value) (H : AH) : MV x0 x1 x4 x5 x6 x7 x93 x112 H =
 ax x112
 (ld [.n, .f 7] x5 H fun v12 =>
 ld [.n, .f 1] x0 H fun v13 =>
 (FF im [v12, v13, x6] H).bind fun r14 =>
 ax r14.1
 (st 1 [.n, .f 6] x0 (vi 4) r14.2 fun H15 =>
 st 1 [.n, .f 7] x0 (vi 0) H15 fun H16 =>
 st 1 [.n, .f 9] x0 (vb false) H16 fun H17 =>
 dF x4 H17)
 (dF x4 r14.2))
 ((aj .other .eql x93 (vi 4)).bind fun v106 =>
 MW x0 x1 x4 x5 x6 x7 x93 v106 H) :=
 (ct rfl (bS [1, 1, 1, 1, 0, 1, 4, 1, 3, 1, 2]) (bS [1, 1, 1, 1, 0, 1, 4, 1, 3, 1, 3]) (.tmp 112) (by kernel_rfl) (pt rfl 0 O2 (by kernel_rfl)))
theorem lP (x0 x1 x4 x5 x6 x7 x93 x97 : Value) (H : AH) : JI x0 x1 x4 x5 x6 x7 x93 x97 H =
 ax x97
 ((FF MF [x0] H).bind fun r6 =>
 (ai r6.1 0).bind fun v7 =>
 (ai r6.1 1).bind fun v8 =>
 ax v7
 (st 1 [.n, .f 6] x0 (vi 6) r6.2 fun H9 =>
 dF x4 H9)
 (ax v8
 (st 1 [.n, .f 6] x0 (vi 3) r6.2 fun H10 =>
 dF x4 H10)
 (dF x4 r6.2)))
 ((aj .other .eql x93 (vi 3)).bind fun v107 =>
 MV x0 x1 x4 x5 x6 x7 x93 v107 H) :=
 (ct rfl (bS [1, 1, 1, 1, 0, 1, 4, 1, 2]) (bS [1, 1, 1, 1, 0, 1, 4, 1, 3]) (.tmp 97) (by kernel_rfl) (pt rfl 0 O1 (by kernel_rfl)))
theorem jt (x0 x1 x4 x5 x6 x7 x93 : Value) (H : AH) : mv x0 x1 x4 x5 x6 x7 x93 H =
 (aj .other .eql x93 (vi 2)).bind fun v108 =>
 JI x0 x1 x4 x5 x6 x7 x93 v108 H :=
 (bt rfl (bS [1, 1, 1, 1, 0, 1, 4]) 0 cP (pt rfl 0 SL (by kernel_rfl)))
theorem A9 (x0 x1 x4 x5 x6 x7 : Value) (H : AH) : JG x0 x1 x4 x5 x6 x7 H =
 ld [.n, .f 6] x0 H fun v109 =>
 mv x0 x1 x4 x5 x6 x7 v109 H :=
 (pt rfl 0 cy (pt rfl 0 SJ (by kernel_rfl)))
theorem A8 (x0 x1 x4 x5 x6 x7 : Value) (H : AH) : JF x0 x1 x4 x5 x6 x7 H =
 ld [.n, .f 6] x0 H fun v110 =>
 (aj .other .eql v110 (vi 0)).bind fun v111 =>
 ax v111
 (ld [.n, .f 2, .f 2] x0 H fun v112 =>
 (aj .other .lss v112 (vi 1)).bind fun v113 =>
 (gV v113 false x0).bind fun v114 =>
 fp v113 false  [.n, .f 2, .f 2] v114 H fun v115 =>
 (gB v113 false (aj .other .gtr v115 (vi 65536))).bind fun v116 =>
 (aS v113 (vb true) v116).bind fun v117 =>
 ax v117
 ((FF ce [x0, x1, (vi 3)] H).bind fun r118 =>
 some ((vb true), r118.2))
 (ld [.n, .f 2, .f 1] x0 H fun v119 =>
 (aj .other .lss v119 (vi 0)).bind fun v120 =>
 (gV v120 false x0).bind fun v121 =>
 fp v120 false  [.n, .f 2, .f 1] v121 H fun v122 =>
 (gB v120 false (aj .other .gtr v122 (vi 1048576))).bind fun v123 =>
 (aS v120 (vb true) v123).bind fun v124 =>
 ax v124
 ((FF ce [x0, x1, (vi 5)] H).bind fun r125 =>
 some ((vb true), r125.2))
 (st 1 [.n, .f 6] x0 (vi 2) H fun H126 =>
 JG x0 x1 x4 x5 x6 x7 H126)))
 (JG x0 x1 x4 x5 x6 x7 H) :=
 (pt rfl 0 SG (by kernel_rfl))
noncomputable def rTE (x0 x1 : Value) (H : AH) : OV := aW PP GG FF (bS []) (ls [x0, x1] 303) H en bx en
theorem Z7 (x0 x1 : Value) (H : AH) {r : Value × AH} (h : (
 ad [.n, .f 0] x0 fun v127 =>
 (ar v127 H).bind fun v128 =>
 ld [.n, .f 0] x0 H fun v129 =>
 ld [.n, .f 7] v129 H fun v130 =>
 ld [.n, .f 2, .f 1] x0 H fun v131 =>
 (FF eb [v130, v131] H).bind fun r132 =>
 bE (ar v127 r132.2) (ar v127 H) <|
 ld [.n, .f 2, .f 1] x0 r132.2 fun v133 =>
 ld [.n, .f 2, .f 2] x0 r132.2 fun v134 =>
 ld [.n, .f 2, .f 3] x0 r132.2 fun v135 =>
 gk [(0, 1), (1, 1), (2, 1)] [(vi 0), (vi 0), (vi 0)] [(0, v133), (1, v134), (2, v135)] fun v136 =>
 aY [(vi 0), (vi 0), (vi 0)] r132.2 fun v137 H138 =>
 (cW 3 v137 v136 H138).bind fun H139 =>
 JF x0 x1 (vb false) v128 r132.1 v137 H139) = some r) : FF de [x0, x1] H = some r :=
 fo (t := rTE x0 x1 H) Tryz.func43 (by kernel_rfl) (Eq.trans (pt rfl 2 SE (by kernel_rfl)) h)
theorem FO (x0 x1 : Value) (H : AH) {r : Value × AH} (h : (
 aY [(vi 0), (.slice none 0 0), (vi 0), (vw 0)] H fun v0 H1 =>
 ax x1
 (ldN 4 [.n, .f 17] x0 H1 fun v2 =>
 (cW 4 v0 v2 H1).bind fun H3 =>
 (aA 4 v0 H3).bind fun v4 => some (v4, H3))
 (gk [(0, 1), (1, 1), (2, 1), (3, 1)] [(vi 0), (.slice none 0 0), (vi 0), (vw 0)] [] fun v5 =>
 (cW 4 v0 v5 H1).bind fun H6 =>
 (aA 4 v0 H6).bind fun v7 => some (v7, H6))) = some r) : FF qu [x0, x1] H = some r :=
 fo Tryz.func44 (by kernel_rfl) h
noncomputable def Mh (p : List Nat) : Code := Code.sub (bJ Tryz.f71) p
noncomputable def xN : KK := ei PP (Tryz.f71).results.toList
noncomputable def Ti : KK := CQ (Mh [1, 1]) xN bx xN
noncomputable def wU (x0 x4 x5 x6 : Value) (H : AH) : OV := Ti (ls [x0, u, u, u, x4, x5, x6] 27) H
noncomputable def IP : KK := CQ (Mh [1, 1, 1]) xN bx xN
noncomputable def ZJ : KK := dv 17179869134 IP
noncomputable def wV (x0 x4 x5 : Value) (H : AH) : OV := IP (ls [x0, u, u, u, x4, x5] 28) H
noncomputable def ZK : KX := BX 0 ZJ bx
theorem vV : au 17179869135 xN := rf
theorem Tj : au 17179869070 Ti := rc vV aC vV
theorem Fu : au 17179869134 IP := rc vV aC vV
theorem Tl : ∀ i, au 17179869134 (ZK i) := rb (cd Fu) aC
theorem zP (x0 x4 x5 : Value) (H : AH) : wV x0 x4 x5 H =
 (FF bf [x0, (.func (.func ic) #[x0] #[])] H).bind fun r2 =>
 (ai r2.1 0).bind fun v3 =>
 (ai r2.1 1).bind fun v4 =>
 (cW 4 x4 v3 r2.2).bind fun H5 =>
 (aA 4 x4 H5).bind fun v6 => some (Value.tuple #[v6, v4], H5) :=
 (by kernel_rfl)
theorem zO (x0 x4 x5 x6 : Value) (H : AH) : wU x0 x4 x5 x6 H =
 ld [.n, .f 10] x0 H fun v8 =>
 ax v8
 ((FF bf [x0, (.func (.func eM) #[x0] #[])] H).bind fun r9 =>
 (ai r9.1 0).bind fun v10 =>
 (ai r9.1 1).bind fun v11 =>
 (cW 4 x4 v10 r9.2).bind fun H12 =>
 (aA 4 x4 H12).bind fun v13 => some (Value.tuple #[v13, v11], H12))
 (ax x6
 ((FF bf [x0, (.func (.func cq) #[x0] #[])] H).bind fun r14 =>
 (ai r14.1 0).bind fun v15 =>
 (ai r14.1 1).bind fun v16 =>
 (cW 4 x4 v15 r14.2).bind fun H17 =>
 (aA 4 x4 H17).bind fun v18 => some (Value.tuple #[v18, v16], H17))
 (wV x0 x4 x5 H)) :=
 (pt rfl 0 Fu (bt rfl (Mh [1, 1, 0, 4]) 0 Tl (by kernel_rfl)))
noncomputable def W4 (x0 x1 : Value) (H : AH) : OV := aW PP GG FF (Mh []) (ls [x0, x1] 32) H xN bx xN
theorem HK (x0 x1 : Value) (H : AH) {r : Value × AH} (h : (
 aY [(vi 0), (.slice none 0 0), (vi 0), (vw 0)] H fun v19 H20 =>
 (FF sj [x0] H20).bind fun r21 =>
 wU x0 v19 (vb false) r21.1 r21.2) = some r) : FF ic [x0, x1] H = some r :=
 fo (t := W4 x0 x1 H) Tryz.func71 (by kernel_rfl) (Eq.trans (pt rfl 1 Tj (by kernel_rfl)) h)
theorem rg (x0 x1 : Value) (H : AH) {r : Value × AH} (h : (
 (FF gt [x0] H).bind fun r0 =>
 (FF gt [x1] r0.2).bind fun r1 =>
 ax r0.1
 (ax r1.1
 (some ((vi 0), r1.2))
 (some ((vi (-1)), r1.2)))
 (ax r1.1
 (some ((vi 1), r1.2))
 ((aj .other .lss x0 x1).bind fun v2 =>
 ax v2
 (some ((vi (-1)), r1.2))
 ((aj .other .gtr x0 x1).bind fun v3 =>
 ax v3
 (some ((vi 1), r1.2))
 (some ((vi 0), r1.2)))))) = some r) : FF hM [x0, x1] H = some r :=
 fo Tryz.func73 (by kernel_rfl) h
theorem qK (x0 x1 x2 : Value) (H : AH) {r : Value × AH} (h : (
 ld [.n, .f 12] x0 H fun v0 =>
 zY 2 1 [(vi 0)] [(0, x1), (1, x2)] H fun v1 H2 =>
 (dN 1 8 v0 v1 H2).bind fun r3 =>
 st 1 [.n, .f 12] x0 r3.1 r3.2 fun H4 =>
 some (Value.tuple #[], H4)) = some r) : FF gA [x0, x1, x2] H = some r :=
 fo Tryz.func77 (by kernel_rfl) h
noncomputable def TK (p : List Nat) : Code := Code.sub (bJ Tryz.f78) p
noncomputable def xW : KK := ei PP (Tryz.f78).results.toList
noncomputable def TL : KK := CQ (TK [1, 1]) xW bx xW
noncomputable def j3 (x0 x4 x5 : Value) (H : AH) : OV := TL (ls [x0, u, u, u, x4, x5] 15) H
noncomputable def TN : KK := CQ (TK [1, 1, 1]) xW bx xW
noncomputable def f6 (x4 x5 : Value) (H : AH) : OV := TN (ls [u, u, u, u, x4, x5] 15) H
theorem vW : au 2097135 xW := rf
theorem TM : au 2097102 TL := rc vW aC vW
theorem TO : au 2097103 TN := rc vW aC vW
theorem gX (x4 x5 : Value) (H : AH) : f6 x4 x5 H =
 some (x5, H) :=
 (by kernel_rfl)
theorem nf (x0 x4 x5 : Value) (H : AH) : j3 x0 x4 x5 H =
 (aj .other .lss x5 (vi 0)).bind fun v2 =>
 ax v2
 (ld [.n, .f 1] x0 H fun v3 =>
 (aj .other .add x5 v3).bind fun v4 =>
 f6 x4 v4 H)
 (f6 x4 x5 H) :=
 (pt rfl 0 TO (by kernel_rfl))
noncomputable def vz (x0 x1 : Value) (H : AH) : OV := aW PP GG FF (TK []) (ls [x0, x1] 19) H xW bx xW
theorem qL (x0 x1 : Value) (H : AH) {r : Value × AH} (h : (
 ld [.n, .f 1] x0 H fun v5 =>
 (aj .other .rem x1 v5).bind fun v6 =>
 j3 x0 (vi 0) v6 H) = some r) : FF eb [x0, x1] H = some r :=
 fo (t := vz x0 x1 H) Tryz.func78 (by kernel_rfl) (Eq.trans (pt rfl 1 TM (by kernel_rfl)) h)
theorem t3 (x0 x1 x2 : Value) (H : AH) {r : Value × AH} (h : (
 gk [(0, 1), (1, 1), (2, 1), (3, 1)] [(vi 0), (.slice none 0 0), (vi 0), (vw 0)] [(0, x2)] fun v0 =>
 st 4 [.n, .f 17] x0 v0 H fun H1 =>
 ld [.n, .f 0] x0 H1 fun v2 =>
 ld [.n, .f 1] x0 H1 fun v3 =>
 ldN 4 [.n, .f 17] x0 H1 fun v4 =>
 (FF UO [v2, x1, v3, v4] H1).bind fun r5 =>
 some (Value.tuple #[], r5.2)) = some r) : FF ce [x0, x1, x2] H = some r :=
 fo Tryz.func79 (by kernel_rfl) h
noncomputable def TQ (p : List Nat) : Code := Code.sub (bJ Tryz.f80) p
noncomputable def xX : KK := ei PP (Tryz.f80).results.toList
noncomputable def TS : KK := CQ (TQ [1, 1, 1]) xX bx xX
noncomputable def Vr (x0 x2 x3 x6 : Value) (H : AH) : OV := TS (ls [x0, u, x2, x3, u, u, x6] 88) H
noncomputable def TU : KK := CQ (TQ [1, 1, 1, 1]) xX bx xX
noncomputable def DE (x0 x2 x3 : Value) (H : AH) : OV := TU (ls [x0, u, x2, x3] 91) H
theorem vX : au 39614081257132168796771975155 xX := rf
theorem TT : au 39614081257132168796771975090 TS := rc vX aC vX
theorem TV : au 39614081257132168796771975154 TU := rc vX aC vX
theorem P7 (x0 x2 x3 : Value) (H : AH) : DE x0 x2 x3 H =
 ld [.n, .f 7] x0 H fun v2 =>
 (aj .other .add v2 (vi 1)).bind fun v3 =>
 st 1 [.n, .f 7] x0 v3 H fun H4 =>
 ld [.n, .f 7] x0 H4 fun v5 =>
 ld [.n, .f 0] x0 H4 fun v6 =>
 ld [.n, .f 7] v6 H4 fun v7 =>
 ld [.n, .f 2] v7 H4 fun v8 =>
 (aj .other .geq v5 v8).bind fun v9 =>
 some (Value.tuple #[(vb false), v9], H4) :=
 (by kernel_rfl)
theorem Ba (x0 x2 x3 x6 : Value) (H : AH) : Vr x0 x2 x3 x6 H =
 (pi .not x6).bind fun v10 =>
 (gV v10 true x0).bind fun v11 =>
 fp v10 true  [.n, .f 8] v11 H fun v12 =>
 (gB v10 true (aj .other .lss v12 (vi 0))).bind fun v13 =>
 (aS v10 v13 (vb false)).bind fun v14 =>
 ax v14
 (ld [.n, .f 7] x0 H fun v15 =>
 st 1 [.n, .f 8] x0 v15 H fun H16 =>
 DE x0 x2 x3 H16)
 (DE x0 x2 x3 H) :=
 (pt rfl 0 TV (by kernel_rfl))
noncomputable def rTs (x0 : Value) (H : AH) : OV := aW PP GG FF (TQ []) (ls [x0] 94) H xX bx xX
theorem Z8 (x0 : Value) (H : AH) {r : Value × AH} (h : (
 ad [.n, .f 0] x0 fun v17 =>
 (ar v17 H).bind fun v18 =>
 ad [.n, .f 7] v18 fun v19 =>
 (ar v19 H).bind fun v20 =>
 ad [.n, .f 1] x0 fun v21 =>
 (ar v21 H).bind fun v22 =>
 ld [.n, .f 0] x0 H fun v23 =>
 ld [.n, .f 7] v23 H fun v24 =>
 ld [.n, .f 2, .f 1] x0 H fun v25 =>
 (FF eb [v24, v25] H).bind fun r26 =>
 bE (ar v17 r26.2) (ar v17 H) <|
 bE (ar v19 r26.2) (ar v19 H) <|
 bE (ar v21 r26.2) (ar v21 H) <|
 ad [.n, .f 7] x0 fun v27 =>
 (ar v27 r26.2).bind fun v28 =>
 bE (ar v27 H) (ar v27 r26.2) <|
 (FF io [v20, v22, r26.1, v28] r26.2).bind fun r29 =>
 (ai r29.1 0).bind fun v30 =>
 (ai r29.1 1).bind fun v31 =>
 (ai r29.1 2).bind fun v32 =>
 (gV v32 true v30).bind fun v33 =>
 (gV v32 true x0).bind fun v34 =>
 fp v32 true  [.n, .f 2, .f 1] v34 r29.2 fun v35 =>
 (gB v32 true (aj .other .eql v33 v35)).bind fun v36 =>
 (aS v32 v36 (vb false)).bind fun v37 =>
 ax v37
 (st 1 [.n, .f 9] x0 (vb true) r29.2 fun H38 =>
 st 1 [.n, .f 10] x0 v31 H38 fun H39 =>
 some (Value.tuple #[(vb true), (vb false)], H39))
 (Vr x0 (vb false) (vb false) v32 r29.2)) = some r) : FF MF [x0] H = some r :=
 fo (t := rTs x0 H) Tryz.func80 (by kernel_rfl) (Eq.trans (pt rfl 2 TT (by kernel_rfl)) h)
theorem tS (x0 x1 x2 : Value) (H : AH) {r : Value × AH} (h : (
 aY [(vi 0), (vi 0), (vw 0)] H fun v0 H1 =>
 (aj .other .lss x2 (vi 0)).bind fun v2 =>
 (gV v2 false x2).bind fun v3 =>
 (gV v2 false x0).bind fun v4 =>
 fp v2 false  [.n, .f 10] v4 H1 fun v5 =>
 (wa (yv v2) false (iN v5 some) (some undef)).bind fun v6 =>
 (gB v2 false (aj .other .geq v3 v6)).bind fun v7 =>
 (aS v2 (vb true) v7).bind fun v8 =>
 ax v8
 (gk [(0, 1), (1, 1), (2, 1)] [(vi 0), (vi 0), (vw 0)] [] fun v9 =>
 (cW 3 v0 v9 H1).bind fun H10 =>
 (aA 3 v0 H10).bind fun v11 => some (v11, H10))
 (ad [.n, .f 5] x0 fun v12 =>
 (ar v12 H1).bind fun v13 =>
 (FF bF [(vi 13), x2, (vi 0)] H1).bind fun r14 =>
 bE (ar v12 r14.2) (ar v12 H1) <|
 (FF bD [v13, x1, (vi 5), r14.1] r14.2).bind fun r15 =>
 ld [.n, .f 10] x0 r15.2 fun v16 =>
 ldN 3 [.i 3 x2] v16 r15.2 fun v17 =>
 (cW 3 v0 v17 r15.2).bind fun H18 =>
 (aA 3 v0 H18).bind fun v19 => some (v19, H18))) = some r) : FF iW [x0, x1, x2] H = some r :=
 fo Tryz.func83 (by kernel_rfl) h
theorem t5 (x0 : Value) (H : AH) {r : Value × AH} (h : (
 (FF bA [x0] H).bind fun r0 =>
 ad [.n, .f 1] x0 fun v1 =>
 (ar v1 r0.2).bind fun v2 =>
 bE (ar v1 H) (ar v1 r0.2) <|
 (FF iY [r0.1, v2] r0.2).bind fun r3 =>
 st 1 [.n, .f 11] x0 r3.1 r3.2 fun H4 =>
 ld [.n, .f 11] x0 H4 fun v5 =>
 (FF ez [v5] H4).bind fun r6 =>
 (ai r6.1 0).bind fun v7 =>
 (ai r6.1 1).bind fun v8 =>
 (ai r6.1 2).bind fun v9 =>
 some (v8, r6.2)) = some r) : FF fL [x0] H = some r :=
 fo Tryz.func84 (by kernel_rfl) h
theorem t4 (x0 : Value) (H : AH) {r : Value × AH} (h : (
 ld [.n, .f 0] x0 H fun v0 =>
 ld [.n, .f 11] v0 H fun v1 =>
 ld [.n, .f 10] x0 H fun v2 =>
 ld [.i 1 v2] v1 H fun v3 =>
 some (v3, H)) = some r) : FF bA [x0] H = some r :=
 fo Tryz.func85 (by kernel_rfl) h
theorem tV (x0 x1 : Value) (H : AH) {r : Value × AH} (h : (
 ad [.n, .f 0] x0 fun v0 =>
 (ar v0 H).bind fun v1 =>
 ld [.n, .f 1] x0 H fun v2 =>
 (FF bF [(vi 12), v2, (vi 0)] H).bind fun r3 =>
 bE (ar v0 r3.2) (ar v0 H) <|
 (FF cR [v1, x1, r3.1] r3.2).bind fun r4 =>
 some (r4.1, r4.2)) = some r) : FF fJ [x0, x1] H = some r :=
 fo Tryz.func86 (by kernel_rfl) h
theorem tU (x0 x1 x2 : Value) (H : AH) {r : Value × AH} (h : (
 (FF ez [x1] H).bind fun r0 =>
 (ai r0.1 0).bind fun v1 =>
 (ai r0.1 1).bind fun v2 =>
 (ai r0.1 2).bind fun v3 =>
 (aj .other .geq v1 x2).bind fun v4 =>
 (gV v4 true v1).bind fun v5 =>
 (gV v4 true x2).bind fun v6 =>
 (gB v4 true (aj .other .sub v5 v6)).bind fun v7 =>
 (gV v4 true x0).bind fun v8 =>
 fp v4 true  [.n, .f 2] v8 r0.2 fun v9 =>
 (gB v4 true (bz (some .u64) v9)).bind fun v10 =>
 (gB v4 true (aj .other .geq v7 v10)).bind fun v11 =>
 (aS v4 v11 (vb false)).bind fun v12 =>
 some (v12, r0.2)) = some r) : FF fI [x0, x1, x2] H = some r :=
 fo Tryz.func88 (by kernel_rfl) h
noncomputable def Mm (p : List Nat) : Code := Code.sub (bJ Tryz.f89) p
noncomputable def ut : KK := ei PP (Tryz.f89).results.toList
noncomputable def TW : KK := CQ (Mm [1]) ut bx ut
noncomputable def kJ (x0 x1 : Value) (H : AH) : OV := TW (ls [x0, x1] 48) H
noncomputable def TY : KK := CQ (Mm [1, 1]) ut bx ut
noncomputable def ed (x0 x1 : Value) (H : AH) : OV := TY (ls [x0, x1] 48) H
noncomputable def ZO : KX := BX 0 ut bx
theorem rJ : au 1125899906842623 ut := rf
theorem TX : au 1125899906842620 TW := rc rJ aC rJ
theorem TZ : au 1125899906842620 TY := rc rJ aC rJ
theorem T0 : ∀ i, au 1125899906842623 (ZO i) := rb rJ aC
theorem ou (x0 x1 : Value) (H : AH) : ed x0 x1 H =
 (FF bA [x0] H).bind fun r3 =>
 ad [.n, .f 1] x0 fun v4 =>
 (ar v4 r3.2).bind fun v5 =>
 bE (ar v4 H) (ar v4 r3.2) <|
 ad [.n, .f 11] x0 fun v6 =>
 (ar v6 r3.2).bind fun v7 =>
 bE (ar v6 H) (ar v6 r3.2) <|
 (FF iX [r3.1, v5, v7, (vi 0)] r3.2).bind fun r8 =>
 ax r8.1
 ((FF ce [x0, x1, (vi 0)] r8.2).bind fun r9 =>
 ld [.n, .f 6] x0 r9.2 fun v10 =>
 (aj .other .add v10 (vi 1)).bind fun v11 =>
 st 1 [.n, .f 6] x0 v11 r9.2 fun H12 =>
 some (Value.tuple #[], H12))
 (ld [.n, .f 6] x0 r8.2 fun v13 =>
 (aj .other .eql v13 (vi 9)).bind fun v14 =>
 ax v14
 (st 1 [.n, .f 6] x0 (vi 7) r8.2 fun H15 =>
 some (Value.tuple #[], H15))
 (st 1 [.n, .f 6] x0 (vi 20) r8.2 fun H16 =>
 some (Value.tuple #[], H16))) :=
 (bt rfl (Mm [1, 1, 4]) 0 T0 (by kernel_rfl))
theorem ot (x0 x1 : Value) (H : AH) : kJ x0 x1 H =
 ld [.n, .f 6] x0 H fun v17 =>
 (aj .other .eql v17 (vi 13)).bind fun v18 =>
 ax v18
 (st 1 [.n, .f 13] x0 (vw 1) H fun H19 =>
 ed x0 x1 H19)
 (ed x0 x1 H) :=
 (pt rfl 0 TZ (by kernel_rfl))
noncomputable def yQ (x0 x1 : Value) (H : AH) : OV := aW PP GG FF (Mm []) (ls [x0, x1] 48) H ut bx ut
theorem sN (x0 x1 : Value) (H : AH) {r : Value × AH} (h : (
 st 1 [.n, .f 13] x0 (vw 0) H fun H20 =>
 kJ x0 x1 H20) = some r) : FF ip [x0, x1] H = some r :=
 fo (t := yQ x0 x1 H) Tryz.func89 (by kernel_rfl) (Eq.trans (pt rfl 0 TX (by kernel_rfl)) h)
theorem vy (x0 x1 x2 x3 : Value) (H : AH) {r : Value × AH} (h : (
 aY (Value.cells x3).toList H fun v0 H1 =>
 ad [.n, .f 0] x0 fun v2 =>
 (ar v2 H1).bind fun v3 =>
 ad [.n, .f 1] x0 fun v4 =>
 (ar v4 H1).bind fun v5 =>
 (FF cZ [x0, x2] H1).bind fun r6 =>
 bE (ar v2 r6.2) (ar v2 H1) <|
 bE (ar v4 r6.2) (ar v4 H1) <|
 (FF bF [(vi 16), v5, r6.1] r6.2).bind fun r7 =>
 bE (ar v2 r7.2) (ar v2 H1) <|
 (FF bD [v3, x1, (vi 6), r7.1] r7.2).bind fun r8 =>
 ad [.n, .f 3] x0 fun v9 =>
 (ar v9 r8.2).bind fun v10 =>
 (FF cZ [x0, x2] r8.2).bind fun r11 =>
 bE (ar v9 r11.2) (ar v9 r8.2) <|
 (aA 3 v0 r11.2).bind fun v12 =>
 bE (aA 3 v0 r8.2) (aA 3 v0 r11.2) <|
 st 3 [.i 3 r11.1] v10 v12 r11.2 fun H13 =>
 some (Value.tuple #[], H13)) = some r) : FF jZ [x0, x1, x2, x3] H = some r :=
 fo Tryz.func90 (by kernel_rfl) h
theorem sO (x0 : Value) (H : AH) {r : Value × AH} (h : (
 ld [.n, .f 11] x0 H fun v0 =>
 (FF ez [v0] H).bind fun r1 =>
 (ai r1.1 0).bind fun v2 =>
 (ai r1.1 1).bind fun v3 =>
 (ai r1.1 2).bind fun v4 =>
 some (v2, r1.2)) = some r) : FF dC [x0] H = some r :=
 fo Tryz.func91 (by kernel_rfl) h
theorem tW (x0 x1 x2 : Value) (H : AH) {r : Value × AH} (h : (
 ad [.n, .f 0] x0 fun v0 =>
 (ar v0 H).bind fun v1 =>
 ad [.n, .f 1] x0 fun v2 =>
 (ar v2 H).bind fun v3 =>
 (FF cZ [x0, x2] H).bind fun r4 =>
 bE (ar v0 r4.2) (ar v0 H) <|
 bE (ar v2 r4.2) (ar v2 H) <|
 (FF bF [(vi 15), v3, r4.1] r4.2).bind fun r5 =>
 bE (ar v0 r5.2) (ar v0 H) <|
 (aj .other .add x2 (vw 1)).bind fun v6 =>
 (FF dV [v1, x1, r5.1, v6] r5.2).bind fun r7 =>
 some (Value.tuple #[], r7.2)) = some r) : FF fK [x0, x1, x2] H = some r :=
 fo Tryz.func92 (by kernel_rfl) h
theorem qE (x0 x1 : Value) (H : AH) {r : Value × AH} (h : (
 ad [.n, .f 0] x0 fun v0 =>
 (ar v0 H).bind fun v1 =>
 (FF bF [(vi 3), (vi 0), (vi 0)] H).bind fun r2 =>
 bE (ar v0 r2.2) (ar v0 H) <|
 (FF fA [v1, x1, r2.1, (vw 4294967296)] r2.2).bind fun r3 =>
 some (Value.tuple #[], r3.2)) = some r) : FF gz [x0, x1] H = some r :=
 fo Tryz.func93 (by kernel_rfl) h
noncomputable def Fy (p : List Nat) : Code := Code.sub (bJ Tryz.f94) p
noncomputable def uu : KK := ei PP (Tryz.f94).results.toList
noncomputable def T4 : KK := CQ (Fy [1]) uu bx uu
noncomputable def Vp (x0 x1 x4 : Value) (H : AH) : OV := T4 (ls [x0, x1, u, u, x4] 100) H
noncomputable def IY : KK := CQ (Fy [1, 1]) uu bx uu
noncomputable def T3 : KK := dv 40564819207303340847894502572015 IY
noncomputable def my (x4 : Value) (H : AH) : OV := IY (ls [u, u, u, u, x4] 100) H
noncomputable def T6 : KK := CQ (Fy [1, 0, 1]) T3 bx uu
noncomputable def Vq (x0 x1 x4 x8 : Value) (H : AH) : OV := T6 (ls [x0, x1, u, u, x4, u, u, u, x8] 96) H
noncomputable def ZP : KX := BX 0 T3 bx
theorem rK : au 40564819207303340847894502572015 uu := rf
theorem T5 : au 40564819207303340847894502572012 T4 := rc rK aC rK
theorem xY : au 40564819207303340847894502572015 IY := rc rK aC rK
theorem T7 : au 40564819207303340847894502571756 T6 := rc (cd xY) aC rK
theorem T8 : ∀ i, au 40564819207303340847894502572015 (ZP i) := rb (cd xY) aC
theorem iu (x4 : Value) (H : AH) : my x4 H =
 some ((vb false), H) :=
 (by kernel_rfl)
theorem pp (x0 x1 x4 x8 : Value) (H : AH) : Vq x0 x1 x4 x8 H =
 (aj .other .eql x8 (vi 15)).bind fun v4 =>
 ax v4
 (ld [.n, .f 0] x0 H fun v5 =>
 ld [.n, .f 1] x0 H fun v6 =>
 (FF fH [v5, v6] H).bind fun r7 =>
 st 1 [.n, .f 13] x0 r7.1 r7.2 fun H8 =>
 st 1 [.n, .f 6] x0 (vi 16) H8 fun H9 =>
 ld [.n, .f 13] x0 H9 fun v10 =>
 (aj .other .rem v10 (vw 2)).bind fun v11 =>
 (aj .other .eql v11 (vw 1)).bind fun v12 =>
 ax v12
 (st 1 [.n, .f 6] x0 (vi 7) H9 fun H13 =>
 my x4 H13)
 (my x4 H9))
 ((aj .other .eql x8 (vi 16)).bind fun v14 =>
 ax v14
 (st 1 [.n, .f 6] x0 (vi 17) H fun H15 =>
 (FF fL [x0] H15).bind fun r16 =>
 (aj .other .eql r16.1 (vi 2)).bind fun v17 =>
 ax v17
 (st 1 [.n, .f 6] x0 (vi 3) r16.2 fun H18 =>
 my x4 H18)
 (my x4 r16.2))
 ((aj .other .eql x8 (vi 17)).bind fun v19 =>
 ax v19
 ((FF bA [x0] H).bind fun r20 =>
 ad [.n, .f 1] x0 fun v21 =>
 (ar v21 r20.2).bind fun v22 =>
 bE (ar v21 H) (ar v21 r20.2) <|
 (FF fJ [r20.1, v22] r20.2).bind fun r23 =>
 st 1 [.n, .f 12] x0 r23.1 r23.2 fun H24 =>
 st 1 [.n, .f 16] x0 x1 H24 fun H25 =>
 st 1 [.n, .f 6] x0 (vi 18) H25 fun H26 =>
 (FF bA [x0] H26).bind fun r27 =>
 ad [.n, .f 11] x0 fun v28 =>
 (ar v28 r27.2).bind fun v29 =>
 bE (ar v28 H26) (ar v28 r27.2) <|
 ad [.n, .f 12] x0 fun v30 =>
 (ar v30 r27.2).bind fun v31 =>
 bE (ar v30 H26) (ar v30 r27.2) <|
 (FF fI [r27.1, v29, v31] r27.2).bind fun r32 =>
 (pi .not r32.1).bind fun v33 =>
 ax v33
 (st 1 [.n, .f 6] x0 (vi 7) r32.2 fun H34 =>
 my x4 H34)
 (my x4 r32.2))
 ((aj .other .eql x8 (vi 18)).bind fun v35 =>
 ax v35
 (ld [.n, .f 0] x0 H fun v36 =>
 ld [.n, .f 1] x0 H fun v37 =>
 (FF fH [v36, v37] H).bind fun r38 =>
 ad [.n, .f 13] x0 fun v39 =>
 (ar v39 r38.2).bind fun v40 =>
 bE (ar v39 H) (ar v39 r38.2) <|
 (aj .other .eql r38.1 v40).bind fun v41 =>
 ax v41
 (ld [.n, .f 16] x0 r38.2 fun v42 =>
 (FF ce [x0, v42, (vi 9)] r38.2).bind fun r43 =>
 some ((vb true), r43.2))
 (st 1 [.n, .f 6] x0 (vi 7) r38.2 fun H44 =>
 my x4 H44))
 (my x4 H)))) :=
 (bt rfl (Fy [1, 0, 1, 4]) 0 T8 (by kernel_rfl))
theorem pn (x0 x1 x4 : Value) (H : AH) : Vp x0 x1 x4 H =
 ld [.n, .f 6] x0 H fun v45 =>
 Vq x0 x1 x4 v45 H :=
 (pt rfl 0 xY (pt rfl 0 T7 (by kernel_rfl)))
noncomputable def rTf (x0 x1 : Value) (H : AH) : OV := aW PP GG FF (Fy []) (ls [x0, x1] 103) H uu bx uu
theorem DD (x0 x1 : Value) (H : AH) {r : Value × AH} (h : (
 Vp x0 x1 (vb false) H) = some r) : FF YZ [x0, x1] H = some r :=
 fo (t := rTf x0 x1 H) Tryz.func94 (by kernel_rfl) (Eq.trans (pt rfl 0 T5 (by kernel_rfl)) h)
noncomputable def Fz (p : List Nat) : Code := Code.sub (bJ Tryz.f95) p
noncomputable def uv : KK := ei PP (Tryz.f95).results.toList
noncomputable def Ua : KK := CQ (Fz [1, 1]) uv bx uv
noncomputable def Vs (x0 x1 x4 x5 : Value) (H : AH) : OV := Ua (ls [x0, x1, u, u, x4, x5] 113) H
noncomputable def IZ : KK := CQ (Fz [1, 1, 1]) uv bx uv
noncomputable def T9 : KK := dv 664613997892457936451903530140172271 IZ
noncomputable def ox (x4 : Value) (H : AH) : OV := IZ (ls [u, u, u, u, x4] 114) H
noncomputable def Uc : KK := CQ (Fz [1, 1, 0, 1]) T9 bx uv
noncomputable def Vt (x0 x1 x4 x5 x13 : Value) (H : AH) : OV := Uc (ls [x0, x1, u, u, x4, x5, u, u, u, u, u, u, u, x13] 105) H
noncomputable def ZQ : KX := BX 0 T9 bx
theorem rL : au 664613997892457936451903530140172271 uv := rf
theorem Ub : au 664613997892457936451903530140172236 Ua := rc rL aC rL
theorem xZ : au 664613997892457936451903530140172271 IZ := rc rL aC rL
theorem Ud : au 664613997892457936451903530140164044 Uc := rc (cd xZ) aC rL
theorem Ue : ∀ i, au 664613997892457936451903530140172271 (ZQ i) := rb (cd xZ) aC
theorem jv (x4 : Value) (H : AH) : ox x4 H =
 some ((vb false), H) :=
 (by kernel_rfl)
theorem jw (x0 x1 x4 x5 x13 : Value) (H : AH) : Vt x0 x1 x4 x5 x13 H =
 (aj .other .eql x13 (vi 20)).bind fun v4 =>
 ax v4
 (ld [.n, .f 6] x5 H fun v5 =>
 ld [.n, .f 1] x0 H fun v6 =>
 (FF fG [v5, v6] H).bind fun r7 =>
 st 1 [.n, .f 6] x0 (vi 7) r7.2 fun H8 =>
 ox x4 H8)
 ((aj .other .eql x13 (vi 21)).bind fun v9 =>
 ax v9
 ((FF bA [x0] H).bind fun r10 =>
 ad [.n, .f 1] x0 fun v11 =>
 (ar v11 r10.2).bind fun v12 =>
 bE (ar v11 H) (ar v11 r10.2) <|
 (FF dC [x0] r10.2).bind fun r13 =>
 bE (ar v11 r13.2) (ar v11 r10.2) <|
 (FF fK [r10.1, v12, r13.1] r13.2).bind fun r14 =>
 st 1 [.n, .f 6] x0 (vi 22) r14.2 fun H15 =>
 ox x4 H15)
 ((aj .other .eql x13 (vi 22)).bind fun v16 =>
 ax v16
 (ld [.n, .f 6] x5 H fun v17 =>
 ld [.n, .f 1] x0 H fun v18 =>
 (FF iV [v17, v18, x1] H).bind fun r19 =>
 st 1 [.n, .f 15] x0 r19.1 r19.2 fun H20 =>
 st 1 [.n, .f 6] x0 (vi 23) H20 fun H21 =>
 ox x4 H21)
 ((aj .other .eql x13 (vi 23)).bind fun v22 =>
 ax v22
 (ld [.n, .f 6] x5 H fun v23 =>
 ld [.n, .f 1] x0 H fun v24 =>
 ld [.n, .f 10] x0 H fun v25 =>
 ld [.n, .f 15] x0 H fun v26 =>
 (FF ij [v23, v24, v25, v26] H).bind fun r27 =>
 st 1 [.n, .f 6] x0 (vi 24) r27.2 fun H28 =>
 ox x4 H28)
 ((aj .other .eql x13 (vi 24)).bind fun v29 =>
 ax v29
 (st 1 [.n, .f 6] x0 (vi 22) H fun H30 =>
 ld [.n, .f 6] x5 H30 fun v31 =>
 ld [.n, .f 1] x0 H30 fun v32 =>
 ld [.n, .f 15] x0 H30 fun v33 =>
 ld [.n, .f 10] x0 H30 fun v34 =>
 (FF ik [v31, v32, x1, v33, v34] H30).bind fun r35 =>
 ax r35.1
 (st 1 [.n, .f 6] x0 (vi 25) r35.2 fun H36 =>
 ox x4 H36)
 (ox x4 r35.2))
 ((aj .other .eql x13 (vi 25)).bind fun v37 =>
 ax v37
 (ld [.n, .f 6] x5 H fun v38 =>
 ld [.n, .f 1] x0 H fun v39 =>
 (FF fG [v38, v39] H).bind fun r40 =>
 some ((vb true), r40.2))
 (ox x4 H)))))) :=
 (bt rfl (Fz [1, 1, 0, 1, 4]) 0 Ue (by kernel_rfl))
theorem ju (x0 x1 x4 x5 : Value) (H : AH) : Vs x0 x1 x4 x5 H =
 ld [.n, .f 6] x0 H fun v41 =>
 Vt x0 x1 x4 x5 v41 H :=
 (pt rfl 0 xZ (pt rfl 0 Ud (by kernel_rfl)))
noncomputable def rTw (x0 x1 : Value) (H : AH) : OV := aW PP GG FF (Fz []) (ls [x0, x1] 117) H uv bx uv
theorem t7 (x0 x1 : Value) (H : AH) {r : Value × AH} (h : (
 ld [.n, .f 0] x0 H fun v42 =>
 Vs x0 x1 (vb false) v42 H) = some r) : FF UP [x0, x1] H = some r :=
 fo (t := rTw x0 x1 H) Tryz.func95 (by kernel_rfl) (Eq.trans (pt rfl 1 Ub (by kernel_rfl)) h)
theorem pE (x0 x1 : Value) (H : AH) {r : Value × AH} (h : (
 (FF dM [x0, x1] H).bind fun r0 =>
 (pi .not r0.1).bind fun v1 =>
 ax v1
 (some ((.pointer none), r0.2))
 (ld [.n, .f 10] x0 r0.2 fun v2 =>
 ld [.i 4 x1, .f 3] v2 r0.2 fun v3 =>
 some (v3, r0.2))) = some r) : FF fY [x0, x1] H = some r :=
 fo Tryz.func103 (by kernel_rfl) h
theorem tX (x0 x1 x2 x3 : Value) (H : AH) {r : Value × AH} (h : (
 (FF mp [x2, x3] H).bind fun r0 =>
 (ai r0.1 0).bind fun v1 =>
 (ai r0.1 1).bind fun v2 =>
 (gV v2 true x0).bind fun v3 =>
 zU v2 true  [.n, .f 0] v3 fun v4 =>
 (gB v2 true (ar v4 r0.2)).bind fun v5 =>
 (gV v2 true x1).bind fun v6 =>
 (gV v2 true x0).bind fun v7 =>
 fp v2 true  [.n, .f 1] v7 r0.2 fun v8 =>
 (gE v2 true r0.2 (FF bF [(vi 11), v8, (vi 0)] r0.2)).bind fun r9 =>
 bE (ar v4 r9.2) (ar v4 r0.2) <|
 (gV v2 true x2).bind fun v10 =>
 (gV v2 true v1).bind fun v11 =>
 (gE v2 true r9.2 (FF eA [v5, v6, r9.1, v10, v11] r9.2)).bind fun r12 =>
 (aS v2 r12.1 (vb false)).bind fun v13 =>
 some (v13, r12.2)) = some r) : FF iX [x0, x1, x2, x3] H = some r :=
 fo Tryz.func106 (by kernel_rfl) h
theorem tD (x0 x1 : Value) (H : AH) {r : Value × AH} (h : (
 aY [(vi 0), (vi 0), (vi 0)] H fun v0 H1 =>
 gk [(0, 1), (1, 1), (2, 1)] [(vi 0), (vi 0), (vi 0)] [(0, x0), (1, x1)] fun v2 =>
 (cW 3 v0 v2 H1).bind fun H3 =>
 (aA 3 v0 H3).bind fun v4 => some (v4, H3)) = some r) : FF bd [x0, x1] H = some r :=
 fo Tryz.func119 (by kernel_rfl) h
noncomputable def HX (p : List Nat) : Code := Code.sub (bJ Tryz.f133) p
noncomputable def p6 : KK := ei PP (Tryz.f133).results.toList
noncomputable def Lo : KK := CQ (HX [1, 1, 1]) p6 bx p6
noncomputable def Ao (x0 x2 x3 x4 x5 : Value) (H : AH) : OV := Lo (ls [x0, u, x2, x3, x4, x5] 65) H
noncomputable def Lp : KK := CQ (HX [1, 1, 1, 1]) p6 bx p6
noncomputable def oT (x0 x2 : Value) (H : AH) : OV := Lp (ls [x0, u, x2] 68) H
theorem rr : au 2361183241434822606843 p6 := rf
theorem Oo : au 2361183241434822606786 Lo := rc rr aC rr
theorem Oq : au 2361183241434822606842 Lp := rc rr aC rr
theorem BM (x0 x2 : Value) (H : AH) : oT x0 x2 H =
 ad [.n, .f 8] x0 fun v2 =>
 (ar v2 H).bind fun v3 =>
 ld [.n, .f 0] x0 H fun v4 =>
 ld [.n, .f 2] v4 H fun v5 =>
 (FF fj [v5] H).bind fun r6 =>
 bE (ar v2 r6.2) (ar v2 H) <|
 (aj .other .geq v3 r6.1).bind fun v7 =>
 some (v7, r6.2) :=
 (by kernel_rfl)
theorem rh (x0 x2 x3 x4 x5 : Value) (H : AH) : Ao x0 x2 x3 x4 x5 H =
 (gV x5 true x3).bind fun v8 =>
 (gV x5 true x0).bind fun v9 =>
 fp x5 true  [.n, .f 2, .f 1] v9 H fun v10 =>
 (gB x5 true (aj .other .eql v8 v10)).bind fun v11 =>
 (aS x5 v11 (vb false)).bind fun v12 =>
 st 1 [.n, .f 10] x0 v12 H fun H13 =>
 ld [.n, .f 10] x0 H13 fun v14 =>
 ax v14
 (st 1 [.n, .f 9] x0 x4 H13 fun H15 =>
 oT x0 x2 H15)
 (oT x0 x2 H13) :=
 (pt rfl 0 Oq (by kernel_rfl))
noncomputable def Zs (x0 : Value) (H : AH) : OV := aW PP GG FF (HX []) (ls [x0] 70) H p6 bx p6
theorem N4 (x0 : Value) (H : AH) {r : Value × AH} (h : (
 ld [.n, .f 0] x0 H fun v16 =>
 ld [.n, .f 2] v16 H fun v17 =>
 ld [.n, .f 1] x0 H fun v18 =>
 ld [.n, .f 6] x0 H fun v19 =>
 ld [.n, .f 8] x0 H fun v20 =>
 (FF f2 [v17, v18, v19, v20] H).bind fun r21 =>
 (ai r21.1 0).bind fun v22 =>
 (ai r21.1 1).bind fun v23 =>
 (ai r21.1 2).bind fun v24 =>
 ld [.n, .f 8] x0 r21.2 fun v25 =>
 (aj .other .add v25 (vi 1)).bind fun v26 =>
 st 1 [.n, .f 8] x0 v26 r21.2 fun H27 =>
 Ao x0 (vb false) v22 v23 v24 H27) = some r) : FF sj [x0] H = some r :=
 fo (t := Zs x0 H) Tryz.func133 (by kernel_rfl) (Eq.trans (pt rfl 2 Oo (by kernel_rfl)) h)
theorem RJ (x0 x1 : Value) (H : AH) {r : Value × AH} (h : (
 aY [(vi 0), (.slice none 0 0), (vi 0), (vw 0)] H fun v0 H1 =>
 st 1 [.n, .f 7] x0 x1 H1 fun H2 =>
 gk [(0, 1), (1, 1), (2, 1), (3, 1)] [(vi 0), (.slice none 0 0), (vi 0), (vw 0)] [] fun v3 =>
 (cW 4 v0 v3 H2).bind fun H4 =>
 (aA 4 v0 H4).bind fun v5 => some (Value.tuple #[v5, (vb false)], H4)) = some r) : FF bf [x0, x1] H = some r :=
 fo Tryz.func134 (by kernel_rfl) h
theorem HH (x0 x1 : Value) (H : AH) {r : Value × AH} (h : (
 aY [(vi 0), (.slice none 0 0), (vi 0), (vw 0)] H fun v0 H1 =>
 ld [.n, .f 0] x0 H1 fun v2 =>
 ld [.n, .f 1] x0 H1 fun v3 =>
 ld [.n, .f 9] x0 H1 fun v4 =>
 (FF gy [v2, v3, v4] H1).bind fun r5 =>
 ld [.n, .f 0] x0 r5.2 fun v6 =>
 ld [.n, .f 9] x0 r5.2 fun v7 =>
 (FF fY [v6, v7] r5.2).bind fun r8 =>
 st 1 [.n, .f 11] x0 r8.1 r8.2 fun H9 =>
 (FF bf [x0, (.func (.func bC) #[x0] #[])] H9).bind fun r10 =>
 (ai r10.1 0).bind fun v11 =>
 (ai r10.1 1).bind fun v12 =>
 (cW 4 v0 v11 r10.2).bind fun H13 =>
 (aA 4 v0 H13).bind fun v14 => some (Value.tuple #[v14, v12], H13)) = some r) : FF eM [x0, x1] H = some r :=
 fo Tryz.func135 (by kernel_rfl) h
theorem HG (x0 x1 : Value) (H : AH) {r : Value × AH} (h : (
 aY [(vi 0), (.slice none 0 0), (vi 0), (vw 0)] H fun v0 H1 =>
 ld [.n, .f 0] x0 H1 fun v2 =>
 ld [.n, .f 2] v2 H1 fun v3 =>
 ld [.n, .f 1] x0 H1 fun v4 =>
 ld [.n, .f 6] x0 H1 fun v5 =>
 (FF f0 [v3, v4, v5] H1).bind fun r6 =>
 (pi .not r6.1).bind fun v7 =>
 ax v7
 ((FF bf [x0, (.func (.func cq) #[x0] #[])] r6.2).bind fun r8 =>
 (ai r8.1 0).bind fun v9 =>
 (ai r8.1 1).bind fun v10 =>
 (cW 4 v0 v9 r8.2).bind fun H11 =>
 (aA 4 v0 H11).bind fun v12 => some (Value.tuple #[v12, v10], H11))
 (st 1 [.n, .f 8] x0 (vi 0) r6.2 fun H13 =>
 (FF bf [x0, (.func (.func dc) #[x0] #[])] H13).bind fun r14 =>
 (ai r14.1 0).bind fun v15 =>
 (ai r14.1 1).bind fun v16 =>
 (cW 4 v0 v15 r14.2).bind fun H17 =>
 (aA 4 v0 H17).bind fun v18 => some (Value.tuple #[v18, v16], H17))) = some r) : FF cq [x0, x1] H = some r :=
 fo Tryz.func136 (by kernel_rfl) h
end Go.Proofs.YtodpbobjmkhcfaaGreatDoor.Gst
