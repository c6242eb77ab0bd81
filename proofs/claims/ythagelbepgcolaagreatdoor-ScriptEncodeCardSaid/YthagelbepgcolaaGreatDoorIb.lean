/- Rows that are a part's own; places and their numbers; what was logged: of the program, and of the reference. -/
import Derived.Test.YthagelbepgcolaaGreatDoorIa
namespace Go.Proofs.YthagelbepgcolaaGreatDoor.Gst
open Go Go.RowKit
set_option linter.unusedSimpArgs false
set_option linter.unusedVariables false

/-! ### Rows that are a part's own -/
/-- A slice of n things of e cells, which these are. -/
def sl (e : Nat) (v : Value) (n : Nat) (cs : List Value) : SP := ex fun ob : Option Nat => match ob with
  | none => pu (v = .slice none 0 0 ∧ n = 0 ∧ cs = [])
  | some b => pu (v = vs b n e ∧ cs.length = n * e) * blk b (.cells false cs)
theorem sl_nil' {R : SP} {H : AH} (e : Nat) (h : Holds R H) : Holds (sl e (.slice none 0 0) 0 [] * R) H := Holds.ex.2 ⟨none, Holds.pu.2 ⟨⟨rfl, rfl, rfl⟩, h⟩⟩
theorem sl_some {R : SP} {H : AH} {e b n : Nat} {cs : List Value} (hl : cs.length = n * e) (h : Holds (blk b (.cells false cs) * R) H) : Holds (sl e (vs b n e) n cs * R) H :=
  Holds.ex.2 ⟨some b, by rw [sep_assoc]; exact Holds.pu.2 ⟨⟨rfl, hl⟩, h⟩⟩
theorem sl_open {R : SP} {H : AH} {e n : Nat} {v : Value} {cs : List Value} (h : Holds (sl e v n cs * R) H) : (v = .slice none 0 0 ∧ n = 0 ∧ cs = [] ∧ Holds R H) ∨ ∃ b, v = vs b n e ∧ cs.length = n * e ∧ Holds (blk b (.cells false cs) * R) H := by
  obtain ⟨ob, h⟩ := Holds.ex.1 h
  cases ob with
  | none =>
    obtain ⟨⟨h1, h2, h3⟩, h4⟩ := Holds.pu.1 h
    exact .inl ⟨h1, h2, h3, h4⟩
  | some b =>
    simp only [sep_assoc] at h
    obtain ⟨⟨h1, h2⟩, h4⟩ := Holds.pu.1 h
    exact .inr ⟨b, h1, h2, h4⟩

/-- Where a slice's row stands. -/
class Sl (P : SP) (e : Nat) (v : Value) (n : outParam Nat) (cs : outParam (List Value)) (R : outParam SP) : Prop where
  eq : P = sl e v n cs * R
instance (priority := high) Sl.refl (e n : Nat) (v : Value) (cs : List Value) : Sl (sl e v n cs) e v n cs emp := ⟨(sep_emp _).symm⟩
instance Sl.left (P Q R : SP) (e n : Nat) (v : Value) (cs : List Value) [h : Sl P e v n cs R] : Sl (P * Q) e v n cs (R * Q) := ⟨by rw [h.eq, sep_assoc]⟩
instance Sl.right (P Q R : SP) (e n : Nat) (v : Value) (cs : List Value) [h : Sl Q e v n cs R] : Sl (P * Q) e v n cs (P * R) := ⟨by rw [h.eq, sep_left_comm]⟩
theorem Sl.fr {P R : SP} (e : Nat) {n : Nat} (v : Value) {cs : List Value} [h : Sl P e v n cs R] {H : AH} (k : Holds P H) : Holds (sl e v n cs * R) H := by rw [← h.eq]; exact k

section
variable {P P' R : SP} {H : AH} {b o n m e k : Nat} {ro : Bool} {cs xcs : List Value} {v s x : Value} {Q : Value → AH → Prop}

theorem sl_len (e : Nat) {k : Value → OV} (h : Holds P H) [f : Sl P e v n cs R] (hk : wp (k (vi n)) Q) : wp (lenK v k) Q := by
  rcases sl_open (Sl.fr e v h) with ⟨rfl, rfl, _, _⟩ | ⟨b, rfl, _, _⟩
  · exact hk
  · exact hk

/-- More behind it: the row that comes stands at a block of its own. -/
theorem w_app {bytes : Nat} {kk : Value × AH → OV} (h : Holds P H) [f : Sl P e s n cs R] [i : Hs R b (.cells ro xcs)] (hl : xcs.length = k * e) (he : 0 < e) (hk0 : 0 < k) (hc : xcs.all Value.oneCell' = true)
    (hr : (n + k) * bytes ≤ room ∧ n + k ≤ room) (hk : ∀ a c H', Holds (sl e (.slice a (n + k) c) (n + k) (cs ++ xcs) * R) H' → wp (kk (.slice a (n + k) c, H')) Q) : wp ((pApp e bytes s (vs b k e) H).bind kk) Q := by
  have hf := Sl.fr e s h
  have hg := i.get hf.right
  have hrow : pRow e (vs b k e) H = some (k, xcs) := by
    simp only [pRow, pCells, hg, Option.bind_some]
    rw [if_neg (by omega), if_pos (by omega)]
    simp [← hl]
  unfold pApp
  rw [hrow]
  simp only [Option.bind_some]
  rw [if_pos ⟨hc, he⟩]
  rcases sl_open hf with ⟨rfl, rfl, rfl, h'⟩ | ⟨b', rfl, hcl, h'⟩
  · simp only [and_self, if_true]
    rw [if_neg (by omega), if_pos (by simpa using hr)]
    simp only [Option.bind_some, Nat.zero_add, List.nil_append] at hk ⊢
    exact hk _ _ _ (sl_some hl (h'.push _))
  · simp only
    have hgb := h'.left.get
    rw [if_neg (by omega), if_neg (by omega), hgb]
    simp only
    rw [if_pos ⟨trivial, by omega, hr.1, hr.2⟩]
    simp only [Option.bind_some, List.drop_zero]
    rw [← hcl, List.take_length]
    have h2 := h'.dead.push (.cells false (cs ++ xcs))
    rw [AH.size_set] at h2
    exact hk _ _ _ (sl_some (by rw [List.length_append, hcl, hl, Nat.add_mul]) h2)

/-- A cell of it. -/
theorem sl_ld {o' : Nat} {w : Value} (h : Holds P H) [f : Sl P e (vs b n e) n cs R] (hn : 0 < n) (hv : cs[o']? = some w) : pLd1 (vpo b o') H = some w := by
  rcases sl_open (Sl.fr e (vs b n e) h) with ⟨h1, h2, _, _⟩ | ⟨b', h1, _, h'⟩
  · omega
  · have : b' = b := by simpa using h1.symm
    subst this
    exact ld1_at h' hv
end

/-! ### Places, accesses -/
abbrev Loc := Int × Int × Int
def encL (l : Loc) : Value := .agg #[vi l.1, vi l.2.1, vi l.2.2]
instance Cel.loc (l : Loc) : Cel (encL l) [vi l.1, vi l.2.1, vi l.2.2] := ⟨rfl⟩
structure Ev where
  who : Int
  kind : Int
  loc : Loc
deriving DecidableEq
def Ev.cells (e : Ev) : List Value := [vi e.who, vi e.kind, vi e.loc.1, vi e.loc.2.1, vi e.loc.2.2]
def evCells (E : List Ev) : List Value := E.flatMap Ev.cells
theorem evCells_snoc (E : List Ev) (x : Ev) : evCells (E ++ [x]) = evCells E ++ x.cells := by simp [evCells]

/-! ### Rows of things -/
section
variable {α : Type} {enc : α → List Value} {e : Nat}
theorem flat_len (he : ∀ x, (enc x).length = e) (l : List α) : (l.flatMap enc).length = l.length * e := by
  induction l with
  | nil => simp
  | cons x l ih => rw [List.flatMap_cons, List.length_append, he, ih, List.length_cons, Nat.add_mul]; omega
theorem flat_drop (he : ∀ x, (enc x).length = e) : ∀ (l : List α) (i : Nat), (l.flatMap enc).drop (i * e) = (l.drop i).flatMap enc := by
  intro l
  induction l with
  | nil => intro i; simp
  | cons x l ih =>
    intro i
    cases i with
    | zero => simp
    | succ i =>
      rw [List.flatMap_cons, List.drop_append, he, show (i + 1) * e - e = i * e from by rw [Nat.add_mul]; omega, ih, List.drop_eq_nil_of_le (by rw [he, Nat.add_mul]; omega)]
      rfl
theorem flat_split (l : List α) (i : Nat) (hi : i < l.length) : l.flatMap enc = (l.take i).flatMap enc ++ (enc l[i] ++ (l.drop (i + 1)).flatMap enc) := by
  rw [← List.flatMap_cons, ← List.flatMap_append, List.getElem_cons_drop, List.take_append_drop]
theorem flat_set (l : List α) (i : Nat) (hi : i < l.length) (y : α) : (l.set i y).flatMap enc = (l.take i).flatMap enc ++ (enc y ++ (l.drop (i + 1)).flatMap enc) := by
  rw [← List.flatMap_cons, ← List.flatMap_append, List.set_eq_take_append_cons_drop, if_pos hi]
theorem take_len (he : ∀ x, (enc x).length = e) (l : List α) (i : Nat) (hi : i < l.length) : ((l.take i).flatMap enc).length = i * e := by
  rw [flat_len he, List.length_take, Nat.min_eq_left (by omega)]
/-- One thing of a row. -/
theorem flat_at (he : ∀ x, (enc x).length = e) (l : List α) (i : Nat) (hi : i < l.length) : ((l.flatMap enc).drop (i * e)).take e = enc l[i] := by
  rw [flat_split l i hi, List.drop_append, take_len he l i hi, Nat.sub_self, List.drop_zero, List.drop_eq_nil_of_le (by rw [take_len he l i hi]; omega), List.nil_append, List.take_append, he, Nat.sub_self, List.take_zero, List.append_nil,
    List.take_of_length_le (by rw [he]; omega)]
theorem flat_field (he : ∀ x, (enc x).length = e) (l : List α) (i : Nat) (hi : i < l.length) (f : Nat) (hf : f < e) : (l.flatMap enc)[i * e + f]? = (enc l[i])[f]? := by
  rw [flat_split l i hi, List.getElem?_append_right (by rw [take_len he l i hi]; omega), take_len he l i hi, List.getElem?_append_left (by rw [he]; omega)]
  congr 1
  omega
theorem splice_mid (A X B xs : List Value) (f : Nat) (h : f + xs.length ≤ X.length) : splice (A ++ (X ++ B)) (A.length + f) xs = A ++ (splice X f xs ++ B) := by
  unfold splice
  rw [List.take_append, List.take_append, List.drop_append, List.drop_append, List.take_of_length_le (by omega), List.drop_eq_nil_of_le (by omega)]
  have e1 : A.length + f - A.length = f := by omega
  have e2 : A.length + f + xs.length - A.length = f + xs.length := by omega
  have e3 : f + xs.length - X.length = 0 := by omega
  have e4 : f - X.length = 0 := by omega
  rw [e1, e2, e3, e4]
  simp
theorem flat_splice (he : ∀ x, (enc x).length = e) (l : List α) (i : Nat) (hi : i < l.length) (f : Nat) (xs : List Value) (hf : f + xs.length ≤ e) (y : α) (hy : splice (enc l[i]) f xs = enc y) :
    splice (l.flatMap enc) (i * e + f) xs = (l.set i y).flatMap enc := by
  rw [flat_split l i hi, flat_set l i hi, ← take_len he l i hi, splice_mid _ _ _ _ _ (by rw [he]; exact hf), hy]
end

/-- A slice of these things. -/
def ts {α : Type} (e : Nat) (enc : α → List Value) (v : Value) (l : List α) : SP := sl e v l.length (l.flatMap enc)
/-- How things of a kind lie in cells. -/
class Enc {α : Type} (enc : α → List Value) (e : outParam Nat) : Prop where
  len : ∀ x, (enc x).length = e
  one : ∀ x, (enc x).all Value.oneCell' = true
  pos : 0 < e
class Ts (P : SP) (s : Value) (α : outParam Type) (e : outParam Nat) (enc : outParam (α → List Value)) (l : outParam (List α)) (R : outParam SP) : Prop where
  eq : P = ts e enc s l * R
instance (priority := high) Ts.refl {α : Type} (e : Nat) (enc : α → List Value) (s : Value) (l : List α) : Ts (ts e enc s l) s α e enc l emp := ⟨(sep_emp _).symm⟩
instance Ts.left {α : Type} (P Q R : SP) (e : Nat) (enc : α → List Value) (s : Value) (l : List α) [h : Ts P s α e enc l R] : Ts (P * Q) s α e enc l (R * Q) := ⟨by rw [h.eq, sep_assoc]⟩
instance Ts.right {α : Type} (P Q R : SP) (e : Nat) (enc : α → List Value) (s : Value) (l : List α) [h : Ts Q s α e enc l R] : Ts (P * Q) s α e enc l (P * R) := ⟨by rw [h.eq, sep_left_comm]⟩
/-- It becomes another row. -/
class Tu (P : SP) (s : Value) {α : Type} (l' : List α) (P' : outParam SP) : Prop where
  up : ∃ e enc, ∃ (l : List α), ∃ R, P = ts e enc s l * R ∧ P' = ts e enc s l' * R

theorem ts_nil {α : Type} {R : SP} {H : AH} (e : Nat) (enc : α → List Value) (h : Holds R H) : Holds (ts e enc (.slice none 0 0) [] * R) H := sl_nil' e h

section
variable {α : Type} {P P' R : SP} {H : AH} {b o e : Nat} {ro : Bool} {enc : α → List Value} {l : List α} {xcs : List Value} {s : Value} {Q : Value → AH → Prop}
theorem ts_open (h : Holds P H) [f : Ts P s α e enc l R] : (s = .slice none 0 0 ∧ l = [] ∧ Holds R H) ∨ ∃ b, s = vs b l.length e ∧ Holds (blk b (.cells false (l.flatMap enc)) * R) H := by
  have h' : Holds (ts e enc s l * R) H := by rw [← f.eq]; exact h
  rcases sl_open h' with ⟨h1, h2, _, h4⟩ | ⟨b, h1, _, h3⟩
  · exact .inl ⟨h1, List.eq_nil_of_length_eq_zero h2, h4⟩
  · exact .inr ⟨b, h1, h3⟩
theorem ts_back {b : Nat} [E : Enc enc e] (h : Holds (blk b (.cells false (l.flatMap enc)) * R) H) : Holds (ts e enc (vs b l.length e) l * R) H := sl_some (flat_len E.len l) h
theorem w_tlen {k : Value → OV} (h : Holds P H) [f : Ts P s α e enc l R] (hk : wp (k (vi l.length)) Q) : wp (lenK s k) Q := by
  rcases ts_open (f := f) h with ⟨rfl, rfl, _⟩ | ⟨b, rfl, _⟩
  · exact hk
  · exact hk
/-- One more. -/
theorem w_tapp {bytes : Nat} {kk : Value × AH → OV} (x : α) (h : Holds P H) [f : Ts P s α e enc l R] [i : Hs R b (.cells ro xcs)] [E : Enc enc e] (hx : xcs = enc x)
    (hr : (l.length + 1) * bytes ≤ room) (hb : 0 < bytes) (hk : ∀ a c H', Holds (ts e enc (.slice a (l.length + 1) c) (l ++ [x]) * R) H' → wp (kk (.slice a (l.length + 1) c, H')) Q) : wp ((pApp e bytes s (vs b 1 e) H).bind kk) Q := by
  have h' : Holds (sl e s l.length (l.flatMap enc) * R) H := by
    have : P = ts e enc s l * R := f.eq
    rw [this] at h
    exact h
  subst hx
  refine w_app (k := 1) (ro := ro) (xcs := enc x) h' (by rw [E.len]; omega) E.pos (by omega) (E.one x) ⟨hr, ?_⟩ fun a c H' h2 => hk a c H' ?_
  · have : l.length + 1 ≤ (l.length + 1) * bytes := Nat.le_mul_of_pos_right _ hb
    omega
  · have e1 : (l ++ [x]).length = l.length + 1 := by simp
    have e2 : (l ++ [x]).flatMap enc = l.flatMap enc ++ enc x := by simp
    unfold ts
    rw [e1, e2]
    rw [emp_sep] at h2
    exact h2
theorem w_tldN {k : Value → OV} {i : Nat} {kk : IntKind} (h : Holds P H) [f : Ts P s α e enc l R] [E : Enc enc e] (hi : i < l.length) (hk : wp (k (.agg (enc l[i]).toArray)) Q) : wp (ldN e [.i e (.int kk (i : Int))] s H k) Q := by
  rcases ts_open (f := f) h with ⟨_, rfl, _⟩ | ⟨b, rfl, h'⟩
  · simp at hi
  · unfold ldN
    rw [end_i hi end_nil]
    have hlen := flat_len E.len l
    have hm : (i + 1) * e ≤ l.length * e := Nat.mul_le_mul_right _ (by omega)
    rw [Nat.add_mul] at hm
    have := ldN_at (b := b) (cs := l.flatMap enc) (ro := false) (n := e) (o := 0 + i * e) h' (by omega)
    rw [this, Option.bind_some, Nat.zero_add, flat_at E.len l i hi]
    exact hk
theorem w_tldF {k : Value → OV} {i g : Nat} {kk : IntKind} {v : Value} (h : Holds P H) [f : Ts P s α e enc l R] [E : Enc enc e] (hi : i < l.length) (hg : g < e) (hv : (enc l[i])[g]? = some v) (hk : wp (k v) Q) : wp (ld [.i e (.int kk (i : Int)), .f g] s H k) Q := by
  rcases ts_open (f := f) h with ⟨_, rfl, _⟩ | ⟨b, rfl, h'⟩
  · simp at hi
  · unfold ld
    rw [end_i hi (end_f end_nil)]
    have := ld1_at (b := b) (o := 0 + i * e + g) (v := v) h' (by rw [Nat.zero_add, flat_field E.len l i hi g hg]; exact hv)
    rw [this]
    exact hk
theorem w_tld1 {k : Value → OV} {i : Nat} {kk : IntKind} {v : Value} (h : Holds P H) [f : Ts P s α 1 enc l R] [E : Enc enc 1] (hi : i < l.length) (hv : enc l[i] = [v]) (hk : wp (k v) Q) : wp (ld [.i 1 (.int kk (i : Int))] s H k) Q := by
  rcases ts_open (f := f) h with ⟨_, rfl, _⟩ | ⟨b, rfl, h'⟩
  · simp at hi
  · unfold ld
    rw [end_i hi end_nil]
    have := ld1_at (b := b) (o := 0 + i * 1) (v := v) h' (by
      have := flat_field E.len l i hi 0 (by omega)
      rw [Nat.add_zero] at this
      rw [Nat.zero_add, this, hv]; rfl)
    rw [this]
    exact hk
/-- One thing is written over. -/
theorem w_tst {n : Nat} {p : List Stp} {k : AH → OV} {i g : Nat} {kk : IntKind} {v : Value} {xs : List Value} (y : α) (h : Holds P H) [f : Ts P s α e enc l R] [E : Enc enc e] (hi : i < l.length) (hp : p = [.i e (.int kk (i : Int))] ∧ g = 0 ∨ p = [.i e (.int kk (i : Int)), .f g])
    [c : Cel v xs] (hn : xs.length = n) (hg : g + n ≤ e) (hx : xs.all Value.oneCell' = true) (hy : splice (enc l[i]) g xs = enc y) (hk : ∀ H', Holds (ts e enc s (l.set i y) * R) H' → wp (k H') Q) : wp (st n p s v H k) Q := by
  rcases ts_open (f := f) h with ⟨_, rfl, _⟩ | ⟨b, rfl, h'⟩
  · simp at hi
  · have hend : End p (vs b l.length e) b (i * e + g) := by
      rcases hp with ⟨rfl, rfl⟩ | rfl
      · intro R' k'
        rw [end_i hi end_nil]
        simp
      · intro R' k'
        rw [end_i hi (end_f end_nil)]
        simp
    unfold st
    have hc := c.eq
    subst hc
    rw [hend]
    have hlen := flat_len E.len l
    have hm : (i + 1) * e ≤ l.length * e := Nat.mul_le_mul_right _ (by omega)
    rw [Nat.add_mul] at hm
    rw [st_at h' (by simpa using hn) (by omega) hx, Option.bind_some, flat_splice E.len l i hi g _ (by rw [hn]; exact hg) y hy]
    refine hk _ ?_
    have h2 := h'.set (.cells false ((l.set i y).flatMap enc))
    have h3 := ts_back (e := e) (enc := enc) (l := l.set i y) h2
    rw [List.length_set] at h3
    exact h3
end

instance : Enc Ev.cells 5 := ⟨fun _ => rfl, fun _ => rfl, by omega⟩
def encI (n : Int) : List Value := [vi n]
instance : Enc encI 1 := ⟨fun _ => rfl, fun _ => rfl, by omega⟩
end Go.Proofs.YthagelbepgcolaaGreatDoor.Gst
