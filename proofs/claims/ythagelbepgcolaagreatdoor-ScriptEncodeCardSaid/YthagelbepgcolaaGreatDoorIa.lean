/- What stands in an abstract heap, part by part; and what a piece of a printed function comes to. -/
import Derived.Test.YthagelbepgcolaaGreatDoorKa
import Derived.Test.YthagelbepgcolaaGreatDoorSa
namespace Go.Proofs.YthagelbepgcolaaGreatDoor.Gst
open Go Go.RowKit
set_option linter.unusedSimpArgs false

/-! ### Parts of a heap -/
abbrev Hp := Nat → Option AObj
def SP : Type := Hp → Prop
theorem SP.ext {P Q : SP} (h : ∀ x, P x ↔ Q x) : P = Q := funext fun x => propext (h x)
def sep (P Q : SP) : SP := fun h => ∃ a b : Hp, (∀ i, a i = none ∨ b i = none) ∧ (h = fun i => (a i).or (b i)) ∧ P a ∧ Q b
instance : Mul SP := ⟨sep⟩
def emp : SP := fun h => h = fun _ => none
theorem or_comm' {α : Type} {a b : Option α} (h : a = none ∨ b = none) : a.or b = b.or a := by
  rcases h with rfl | rfl <;> simp
theorem sep_comm (P Q : SP) : P * Q = Q * P := by
  have one : ∀ (P Q : SP) h, sep P Q h → sep Q P h := by
    rintro P Q h ⟨a, b, hd, rfl, ha, hb⟩
    exact ⟨b, a, fun i => (hd i).symm, funext fun i => or_comm' (hd i), hb, ha⟩
  exact SP.ext fun h => ⟨one P Q h, one Q P h⟩
theorem sep_assoc (P Q R : SP) : P * Q * R = P * (Q * R) := by
  apply SP.ext
  intro h
  constructor
  · rintro ⟨ab, c, hd, rfl, ⟨a, b, hd2, rfl, ha, hb⟩, hc⟩
    refine ⟨a, fun i => (b i).or (c i), fun i => ?_, funext fun i => ?_, ha, b, c, fun i => ?_, rfl, hb, hc⟩
    · have h1 := hd i
      have h2 := hd2 i
      cases ha' : a i <;> cases hb' : b i <;> cases hc' : c i <;> simp_all
    · exact Option.or_assoc
    · have h1 := hd i
      have h2 := hd2 i
      cases ha' : a i <;> cases hb' : b i <;> cases hc' : c i <;> simp_all
  · rintro ⟨a, bc, hd, rfl, ha, b, c, hd2, rfl, hb, hc⟩
    refine ⟨fun i => (a i).or (b i), c, fun i => ?_, funext fun i => ?_, ⟨a, b, fun i => ?_, rfl, ha, hb⟩, hc⟩
    · have h1 := hd i
      have h2 := hd2 i
      cases ha' : a i <;> cases hb' : b i <;> cases hc' : c i <;> simp_all
    · exact Option.or_assoc.symm
    · have h1 := hd i
      have h2 := hd2 i
      cases ha' : a i <;> cases hb' : b i <;> cases hc' : c i <;> simp_all
theorem sep_emp (P : SP) : P * emp = P := by
  apply SP.ext
  intro h
  constructor
  · rintro ⟨a, b, hd, rfl, ha, hb⟩
    have hb : b = fun _ => none := hb
    subst hb
    simpa using ha
  · intro h'
    exact ⟨h, fun _ => none, fun i => .inr rfl, by simp, h', rfl⟩
theorem emp_sep (P : SP) : emp * P = P := by rw [sep_comm, sep_emp]
instance : Std.Associative (α := SP) (· * ·) := ⟨sep_assoc⟩
instance : Std.Commutative (α := SP) (· * ·) := ⟨sep_comm⟩
theorem sep_left_comm (P Q R : SP) : P * (Q * R) = Q * (P * R) := by rw [← sep_assoc, sep_comm P Q, sep_assoc]

/-- One block. -/
def blk (b : Nat) (o : AObj) : SP := fun h => h = fun i => if i = b then some o else none
def ex {α : Type} (P : α → SP) : SP := fun h => ∃ x, P x h
/-- A fact. -/
def pu (p : Prop) : SP := fun h => p ∧ h = fun _ => none
def Holds (P : SP) (H : AH) : Prop := ∃ h : Hp, P h ∧ ∀ i o, h i = some o → H.get i = some o

theorem Holds.left {P Q : SP} {H : AH} (h : Holds (P * Q) H) : Holds P H := by
  obtain ⟨x, ⟨a, b, hd, rfl, ha, hb⟩, hx⟩ := h
  exact ⟨a, ha, fun i o hi => hx i o (by simp [hi])⟩
theorem Holds.right {P Q : SP} {H : AH} (h : Holds (P * Q) H) : Holds Q H := by rw [sep_comm] at h; exact h.left
theorem Holds.get {b : Nat} {o : AObj} {H : AH} (h : Holds (blk b o) H) : H.get b = some o := by
  obtain ⟨x, hx, hg⟩ := h
  have hx : x = _ := hx
  exact hg b o (by rw [hx]; simp)
theorem Holds.ex {α : Type} {F : α → SP} {R : SP} {H : AH} : Holds (ex F * R) H ↔ ∃ x, Holds (F x * R) H := by
  constructor
  · rintro ⟨h, ⟨a, b, hd, rfl, ⟨x, ha⟩, hb⟩, hx⟩
    exact ⟨x, _, ⟨a, b, hd, rfl, ha, hb⟩, hx⟩
  · rintro ⟨x, h, ⟨a, b, hd, rfl, ha, hb⟩, hx⟩
    exact ⟨_, ⟨a, b, hd, rfl, ⟨x, ha⟩, hb⟩, hx⟩
theorem Holds.pu {p : Prop} {R : SP} {H : AH} : Holds (pu p * R) H ↔ p ∧ Holds R H := by
  constructor
  · rintro ⟨h, ⟨a, b, hd, rfl, ⟨hp, ha⟩, hb⟩, hx⟩
    subst ha
    exact ⟨hp, b, hb, fun i o hi => hx i o (by simp [hi])⟩
  · rintro ⟨hp, h, hr, hx⟩
    exact ⟨h, ⟨fun _ => none, h, fun i => .inl rfl, by simp, ⟨hp, rfl⟩, hr⟩, hx⟩
theorem Holds.emp (H : AH) : Holds emp H := ⟨fun _ => none, rfl, fun i o h => by cases h⟩
theorem Holds.lt {b : Nat} {o : AObj} {R : SP} {H : AH} (h : Holds (blk b o * R) H) : b < H.size := AH.lt_of_get h.left.get

/-- A block is written. -/
theorem Holds.set {b : Nat} {o : AObj} {R : SP} {H : AH} (o' : AObj) (h : Holds (blk b o * R) H) : Holds (blk b o' * R) (H.set b o') := by
  have hb := h.lt
  obtain ⟨x, ⟨a, r, hd, rfl, ha, hr⟩, hx⟩ := h
  have ha : a = _ := ha
  subst ha
  refine ⟨_, ⟨_, r, fun i => ?_, rfl, rfl, hr⟩, fun i o2 hi => ?_⟩
  · have := hd i
    simp only at this ⊢
    by_cases hi : i = b
    · rw [if_pos hi] at this ⊢
      rcases this with h | h
      · cases h
      · exact .inr h
    · rw [if_neg hi]; exact .inl rfl
  · by_cases hib : i = b
    · subst hib
      simp only [if_true, Option.some_or, Option.some.injEq] at hi
      subst hi
      exact AH.get_set_eq hb
    · simp only [if_neg hib, Option.none_or] at hi
      rw [AH.get_set_ne hib]
      exact hx i o2 (by simp only [if_neg hib, Option.none_or]; exact hi)
theorem Holds.push {R : SP} {H : AH} (o : AObj) (h : Holds R H) : Holds (blk H.size o * R) (H.push o) := by
  obtain ⟨r, hr, hx⟩ := h
  refine ⟨_, ⟨_, r, fun i => ?_, rfl, rfl, hr⟩, fun i o2 hi => ?_⟩
  · by_cases hi : i = H.size
    · subst hi
      right
      cases hr' : r H.size with
      | none => rfl
      | some o' => have := AH.lt_of_get (hx _ _ hr'); omega
    · rw [if_neg hi]; exact .inl rfl
  · by_cases hib : i = H.size
    · subst hib
      simp only [if_true, Option.some_or, Option.some.injEq] at hi
      subst hi
      exact AH.get_push_new _ _
    · simp only [if_neg hib, Option.none_or] at hi
      have := hx i o2 hi
      rw [AH.get_push_old (AH.lt_of_get this)]
      exact this
theorem Holds.dead {b : Nat} {o : AObj} {R : SP} {H : AH} (h : Holds (blk b o * R) H) : Holds R (H.set b .dead) := (h.set .dead).right

/-! ### Where a part stands -/
class Fr (P A : SP) (R : outParam SP) : Prop where
  eq : P = A * R
instance (priority := high) Fr.refl (A : SP) : Fr A A emp := ⟨(sep_emp A).symm⟩
instance (priority := high) Fr.emp (P : SP) : Fr P emp P := ⟨(emp_sep P).symm⟩
instance Fr.left (P Q A R : SP) [h : Fr P A R] : Fr (P * Q) A (R * Q) := ⟨by rw [h.eq, sep_assoc]⟩
instance Fr.right (P Q A R : SP) [h : Fr Q A R] : Fr (P * Q) A (P * R) := ⟨by rw [h.eq, sep_left_comm]⟩
instance (priority := high) Fr.both (P A B R1 R2 : SP) [h1 : Fr P A R1] [h2 : Fr R1 B R2] : Fr P (A * B) R2 := ⟨by rw [h1.eq, h2.eq, sep_assoc]⟩
/-- What stands at a block. -/
class Hs (P : SP) (b : Nat) (o : outParam AObj) : Prop where
  get : ∀ {H : AH}, Holds P H → H.get b = some o
instance Hs.one (b : Nat) (o : AObj) : Hs (blk b o) b o := ⟨Holds.get⟩
instance Hs.left (P Q : SP) (b : Nat) (o : AObj) [h : Hs P b o] : Hs (P * Q) b o := ⟨fun k => h.get k.left⟩
instance Hs.right (P Q : SP) (b : Nat) (o : AObj) [h : Hs Q b o] : Hs (P * Q) b o := ⟨fun k => h.get k.right⟩
/-- Another thing at a block. -/
class Up (P : SP) (b : Nat) (o' : AObj) (P' : outParam SP) : Prop where
  up : ∃ o R, P = blk b o * R ∧ P' = blk b o' * R
instance Up.one (b : Nat) (o o' : AObj) : Up (blk b o) b o' (blk b o') := ⟨o, emp, (sep_emp _).symm, (sep_emp _).symm⟩
instance Up.left (P Q : SP) (b : Nat) (o' : AObj) (P' : SP) [h : Up P b o' P'] : Up (P * Q) b o' (P' * Q) := ⟨by
  obtain ⟨o, R, e1, e2⟩ := h.up
  exact ⟨o, R * Q, by rw [e1, sep_assoc], by rw [e2, sep_assoc]⟩⟩
instance Up.right (P Q : SP) (b : Nat) (o' : AObj) (Q' : SP) [h : Up Q b o' Q'] : Up (P * Q) b o' (P * Q') := ⟨by
  obtain ⟨o, R, e1, e2⟩ := h.up
  exact ⟨o, P * R, by rw [e1, sep_left_comm], by rw [e2, sep_left_comm]⟩⟩
theorem Up.set {P P' : SP} {b : Nat} {o' : AObj} [h : Up P b o' P'] {H : AH} (k : Holds P H) : Holds P' (H.set b o') := by
  obtain ⟨o, R, rfl, rfl⟩ := h.up
  exact k.set o'
theorem Holds.fr {P A R : SP} {H : AH} (h : Holds P H) [f : Fr P A R] : Holds (A * R) H := by rw [← f.eq]; exact h
theorem Holds.to {P A R : SP} {H : AH} (h : Holds P H) [f : Fr P A R] : Holds A H := h.fr.left

/-! ### What a text comes to -/
def wp (x : OV) (Q : Value → AH → Prop) : Prop := ∃ v H, x = some (v, H) ∧ Q v H
abbrev vp (b : Nat) : Value := .pointer (some ⟨b, 0, none⟩)
abbrev vpo (b o : Nat) : Value := .pointer (some ⟨b, o, none⟩)
abbrev vs (b n e : Nat) : Value := .slice (some ⟨b, 0, none⟩) n e

theorem w_ret {v : Value} {H : AH} {Q : Value → AH → Prop} (h : Q v H) : wp (some (v, H)) Q := ⟨v, H, rfl, h⟩
theorem wp.mono {x : OV} {Q Q' : Value → AH → Prop} (h : wp x Q) (k : ∀ v H, Q v H → Q' v H) : wp x Q' := let ⟨v, H, e, q⟩ := h; ⟨v, H, e, k v H q⟩
theorem wp_of {x y : OV} {Q : Value → AH → Prop} (h : ∀ r, x = some r → y = some r) (k : wp x Q) : wp y Q := let ⟨v, H, e, q⟩ := k; ⟨v, H, h _ e, q⟩
theorem wp_eq {x y : OV} {Q : Value → AH → Prop} (h : y = x) (k : wp x Q) : wp y Q := by rw [h]; exact k
theorem w_bind {x : Option Value} {v : Value} {k : Value → OV} {Q : Value → AH → Prop} (e : x = some v) (h : wp (k v) Q) : wp (x.bind k) Q := by rw [e]; exact h
theorem w_cond {b : Bool} {x y : OV} {Q : Value → AH → Prop} (ht : b = true → wp x Q) (hf : b = false → wp y Q) : wp (condK (vb b) x y) Q := by
  cases b
  · exact hf rfl
  · exact ht rfl
theorem w_eqK {x y : Option Value} {k : OV} {Q : Value → AH → Prop} (e : x = y) (h : wp k Q) : wp (eqK x y k) Q := by rw [eqK_of e]; exact h
theorem w_eqK_rfl {x : Option Value} {k : OV} {Q : Value → AH → Prop} (h : wp k Q) : wp (eqK x x k) Q := w_eqK rfl h

section
variable {P P' R : SP} {H : AH} {b o f n len e : Nat} {ro : Bool} {cs : List Value} {v x : Value} {Q : Value → AH → Prop}

theorem ld1_at (h : Holds P H) [i : Hs P b (.cells ro cs)] (hv : cs[o]? = some v) : pLd1 (vpo b o) H = some v := by
  simp only [pLd1, pAt, pCells, Option.bind_some, i.get h]
  exact hv
theorem ldN_at (h : Holds P H) [i : Hs P b (.cells ro cs)] (hn : o + n ≤ cs.length) : pLdN n (vpo b o) H = some (.agg ((cs.drop o).take n).toArray) := by
  simp only [pLdN, pAt, pCells, Option.bind_some, i.get h]
  rw [if_pos hn]
theorem st_at (h : Holds P H) [i : Hs P b (.cells false cs)] (hx : x.cells.size = n) (hn : o + n ≤ cs.length) (hc : x.cells.toList.all Value.oneCell' = true) :
    pSt n (vpo b o) x H = some (H.set b (.cells false (splice cs o x.cells.toList))) := by
  simp only [pSt, pAt, Option.bind_some, i.get h]
  rw [if_pos ⟨hx, hn, hc⟩]

theorem w_new {k : Value → AH → OV} (h : Holds P H) (hk : ∀ b H', Holds (blk b (.cells false cs) * P) H' → wp (k (vp b) H') Q) : wp (newK cs H k) Q := hk _ _ (h.push _)
theorem w_map {k : Value → AH → OV} (h : Holds P H) (hk : ∀ b H', Holds (blk b (.map [] 0) * P) H' → wp (k (.map (some b)) H') Q) : wp (mapK H k) Q := hk _ _ (h.push _)
theorem w_row {k : Value → AH → OV} (h : Holds P H) (hk : ∀ b H', Holds (blk b (.cells false cs) * P) H' → wp (k (vs b len e) H') Q) : wp (rowK len e cs H k) Q := hk _ _ (h.push _)
theorem w_mkR {zero : List Value} {xs : List (Nat × Value)} {k : Value → AH → OV} (h : Holds P H) (hf : pFill (offs e) (List.replicate len zero).flatten xs = some cs) (hk : ∀ b H', Holds (blk b (.cells false cs) * P) H' → wp (k (vs b len e) H') Q) :
    wp (mkR len e zero xs H k) Q := by
  unfold mkR
  rw [hf]
  exact w_row h hk
theorem w_mkS {ps : List (Nat × Nat)} {zero : List Value} {xs : List (Nat × Value)} {k : Value → OV} (hf : pFill (fun i => ps[i]?) zero xs = some cs) (hk : wp (k (.agg cs.toArray)) Q) : wp (mkS ps zero xs k) Q := by
  unfold mkS
  rw [hf]
  exact hk
theorem w_mkA {zero : List Value} {xs : List (Nat × Value)} {k : Value → OV} (hf : pFill (offs e) zero xs = some cs) (hk : wp (k (.agg cs.toArray)) Q) : wp (mkA e zero xs k) Q := by
  unfold mkA
  rw [hf]
  exact hk
theorem w_len {n : Nat} {a : Option Addr} {k : Value → OV} (hk : wp (k (vi n)) Q) : wp (lenK (.slice a n e) k) Q := hk
theorem w_lenS {s : ByteArray} {k : Value → OV} (hk : wp (k (vi s.size)) Q) : wp (lenSK (.string s) k) Q := hk

/-! Ways -/
theorem w_ad_nil {R : Type} {a : Value} {k : Value → Option R} : ad [] a k = k a := rfl
theorem ad_n {R : Type} {b o : Nat} {p : List Stp} {k : Value → Option R} : ad (.n :: p) (vpo b o) k = ad p (vpo b o) k := rfl
theorem ad_f {R : Type} {b o f : Nat} {p : List Stp} {k : Value → Option R} : ad (.f f :: p) (vpo b o) k = ad p (vpo b (o + f)) k := rfl
theorem ad_i {R : Type} {b o n e i : Nat} {c : Nat} {p : List Stp} {kk : IntKind} {k : Value → Option R} (h : i < n) : ad (.i e (.int kk (i : Int)) :: p) (.slice (some ⟨b, o, none⟩) n c) k = ad p (vpo b (o + i * e)) k := by
  show (pIdx e (.slice (some ⟨b, o, none⟩) n c) (.int kk (i : Int))).bind _ = _
  simp only [pIdx]
  rw [if_pos (by omega)]
  simp
theorem ad_a {R : Type} {b o n e i : Nat} {p : List Stp} {kk : IntKind} {k : Value → Option R} (h : i < n) : ad (.a n e (.int kk (i : Int)) :: p) (vpo b o) k = ad p (vpo b (o + i * e)) k := by
  show (pIdxA n e (vpo b o) (.int kk (i : Int))).bind _ = _
  simp only [pIdxA]
  rw [if_pos (by omega)]
  simp

/-- A way's end: this block, this place. -/
def End (p : List Stp) (x : Value) (b o : Nat) : Prop := ∀ {R : Type} (k : Value → Option R), ad p x k = k (vpo b o)
theorem end_nil : End [] (vpo b o) b o := fun _ => rfl
theorem end_n {p : List Stp} {b' o' : Nat} (h : End p (vpo b o) b' o') : End (.n :: p) (vpo b o) b' o' := fun k => h k
theorem end_f {p : List Stp} {b' o' : Nat} (h : End p (vpo b (o + f)) b' o') : End (.f f :: p) (vpo b o) b' o' := fun k => h k
theorem end_i {p : List Stp} {b' o' i c : Nat} {kk : IntKind} (hi : i < n) (h : End p (vpo b (o + i * e)) b' o') : End (.i e (.int kk (i : Int)) :: p) (.slice (some ⟨b, o, none⟩) n c) b' o' := fun k => by rw [ad_i hi]; exact h k
theorem end_a {p : List Stp} {b' o' i : Nat} {kk : IntKind} (hi : i < n) (h : End p (vpo b (o + i * e)) b' o') : End (.a n e (.int kk (i : Int)) :: p) (vpo b o) b' o' := fun k => by rw [ad_a hi]; exact h k
theorem end_nf : End [.n, .f f] (vp b) b f := fun k => by
  show k (vpo b (0 + f)) = _
  rw [Nat.zero_add]
theorem end_f0 : End [.f f] (vp b) b f := fun k => by
  show k (vpo b (0 + f)) = _
  rw [Nat.zero_add]

theorem ble_of {a b : Nat} (h : a ≤ b) : Nat.ble a b = true := Nat.ble_eq_true_of_le h
/-- A list with another thing at a place; with other things from a place on; some of it: as lists that are written out. -/
class SetL (l : List Value) (o : Nat) (v : Value) (l' : outParam (List Value)) : Prop where
  eq : o < l.length ∧ l' = l.set o v
instance SetL.zero (a : Value) (l : List Value) (v : Value) : SetL (a :: l) 0 v (v :: l) := ⟨by simp⟩
instance SetL.succ (a : Value) (l : List Value) (o : Nat) (v : Value) (l' : List Value) [h : SetL l o v l'] : SetL (a :: l) (o + 1) v (a :: l') := ⟨by
  obtain ⟨h1, rfl⟩ := h.eq
  exact ⟨by simp; exact h1, by simp⟩⟩
class LayL (l : List Value) (o : Nat) (xs : List Value) (l' : outParam (List Value)) : Prop where
  eq : o + xs.length ≤ l.length ∧ l' = splice l o xs
instance LayL.here0 (l : List Value) : LayL l 0 [] l := ⟨by simp [splice]⟩
instance LayL.here (a x : Value) (l xs l' : List Value) [h : LayL l 0 xs l'] : LayL (a :: l) 0 (x :: xs) (x :: l') := ⟨by
  obtain ⟨h1, rfl⟩ := h.eq
  refine ⟨by simp at h1 ⊢; exact h1, by simp [splice]⟩⟩
instance LayL.on (a : Value) (l : List Value) (o : Nat) (x : Value) (xs l' : List Value) [h : LayL l o (x :: xs) l'] : LayL (a :: l) (o + 1) (x :: xs) (a :: l') := ⟨by
  obtain ⟨h1, rfl⟩ := h.eq
  refine ⟨by simp at h1 ⊢; omega, ?_⟩
  simp only [splice, List.take_succ_cons, List.cons_append, List.cons.injEq, true_and]
  congr 1
  rw [show o + 1 + (x :: xs).length = (o + (x :: xs).length) + 1 from by omega, List.drop_succ_cons]⟩
class SubL (l : List Value) (o n : Nat) (l' : outParam (List Value)) : Prop where
  eq : o + n ≤ l.length ∧ l' = (l.drop o).take n
instance SubL.nil (l : List Value) : SubL l 0 0 [] := ⟨by simp⟩
instance SubL.here (a : Value) (l : List Value) (n : Nat) (l' : List Value) [h : SubL l 0 n l'] : SubL (a :: l) 0 (n + 1) (a :: l') := ⟨by
  obtain ⟨h1, rfl⟩ := h.eq
  exact ⟨by simp at h1 ⊢; exact h1, by simp⟩⟩
instance SubL.on (a : Value) (l : List Value) (o n : Nat) (l' : List Value) [h : SubL l o (n + 1) l'] : SubL (a :: l) (o + 1) (n + 1) l' := ⟨by
  obtain ⟨h1, rfl⟩ := h.eq
  exact ⟨by simp at h1 ⊢; omega, by simp⟩⟩
/-- The cells of a value, written out. -/
class Cel (v : Value) (l : outParam (List Value)) : Prop where
  eq : v.cells.toList = l
instance Cel.int (k : IntKind) (n : Int) : Cel (.int k n) [.int k n] := ⟨rfl⟩
instance Cel.bool (b : Bool) : Cel (.bool b) [.bool b] := ⟨rfl⟩
instance Cel.slice (a : Option Addr) (n c : Nat) : Cel (.slice a n c) [.slice a n c] := ⟨rfl⟩
instance Cel.ptr (a : Option Addr) : Cel (.pointer a) [.pointer a] := ⟨rfl⟩
instance Cel.func (f : Fn) (a b : Array Value) : Cel (.func f a b) [.func f a b] := ⟨rfl⟩
instance Cel.nilFunc : Cel .nilFunc [.nilFunc] := ⟨rfl⟩
instance Cel.map (m : Option Nat) : Cel (.map m) [.map m] := ⟨rfl⟩
instance Cel.string (s : ByteArray) : Cel (.string s) [.string s] := ⟨rfl⟩
instance Cel.agg (l : List Value) : Cel (.agg l.toArray) l := ⟨by simp [Value.cells]⟩

class NthL (ps : List (Nat × Nat)) (i : Nat) (o n : outParam Nat) : Prop where
  eq : ps[i]? = some (o, n)
instance NthL.zero (p : Nat × Nat) (ps : List (Nat × Nat)) : NthL (p :: ps) 0 p.1 p.2 := ⟨rfl⟩
instance NthL.succ (p : Nat × Nat) (ps : List (Nat × Nat)) (i o n : Nat) [h : NthL ps i o n] : NthL (p :: ps) (i + 1) o n := ⟨by simpa using h.eq⟩
class LenL (l : List Value) (n : Nat) : Prop where
  eq : l.length = n
instance LenL.nil : LenL [] 0 := ⟨rfl⟩
instance LenL.cons (a : Value) (l : List Value) (n : Nat) [h : LenL l n] : LenL (a :: l) (n + 1) := ⟨by simp [h.eq]⟩
class FilL (ps : List (Nat × Nat)) (zero : List Value) (xs : List (Nat × Value)) (cs : outParam (List Value)) : Prop where
  eq : pFill (fun i => ps[i]?) zero xs = some cs
instance FilL.nil (ps : List (Nat × Nat)) (zero : List Value) : FilL ps zero [] zero := ⟨rfl⟩
instance FilL.cons (ps : List (Nat × Nat)) (zero z l cs : List Value) (i o n : Nat) (v : Value) (xs : List (Nat × Value)) [h1 : NthL ps i o n] [h2 : Cel v l] [h3 : LenL l n] [h4 : LayL zero o l z] [h5 : FilL ps z xs cs] : FilL ps zero ((i, v) :: xs) cs := ⟨by
  obtain ⟨h6, rfl⟩ := h4.eq
  have h7 := h2.eq
  have h8 := h3.eq
  subst h7
  simp only [pFill, h1.eq, Option.bind_some]
  rw [if_pos ⟨by simpa using h8, by rw [← h8]; exact h6⟩]
  exact h5.eq⟩
/-- One thing, a row of its own. -/
class Fil1 (e : Nat) (zero : List Value) (xs : List (Nat × Value)) (cs : outParam (List Value)) : Prop where
  eq : pFill (offs e) (List.replicate 1 zero).flatten xs = some cs
instance Fil1.one (e : Nat) (zero l z : List Value) (v : Value) [h2 : Cel v l] [h3 : LenL l e] [h4 : LayL zero 0 l z] : Fil1 e zero [(0, v)] z := ⟨by
  obtain ⟨h6, rfl⟩ := h4.eq
  have h7 := h2.eq
  have h8 := h3.eq
  subst h7
  have hz : (List.replicate 1 zero).flatten = zero := by simp
  rw [hz]
  simp only [pFill, offs, Option.bind_some, Nat.zero_mul]
  rw [if_pos ⟨by simpa using h8, by rw [← h8]; exact h6⟩]⟩

theorem w_ad {p : List Stp} {k : Value → OV} (hp : End p x b o) (hk : wp (k (vpo b o)) Q) : wp (ad p x k) Q := by rw [hp k]; exact hk
theorem w_ld {p : List Stp} {k : Value → OV} (h : Holds P H) (hp : End p x b o) [i : Hs P b (.cells ro cs)] (hv : cs[o]? = some v) (hk : wp (k v) Q) : wp (ld p x H k) Q := by
  unfold ld
  rw [hp, ld1_at h hv]
  exact hk
theorem w_ldN {l : List Value} {p : List Stp} {k : Value → OV} (h : Holds P H) (hp : End p x b o) [i : Hs P b (.cells ro cs)] [s : SubL cs o n l] (hk : wp (k (.agg l.toArray)) Q) : wp (ldN n p x H k) Q := by
  obtain ⟨hn, rfl⟩ := s.eq
  unfold ldN
  rw [hp, ldN_at h hn]
  exact hk
theorem w_st {cs' l : List Value} {p : List Stp} {k : AH → OV} (h : Holds P H) (hp : End p x b o) [i : Hs P b (.cells false cs)] [c : Cel v l] [s : LayL cs o l cs'] (hx : l.length = n) (hc : l.all Value.oneCell' = true)
    [u : Up P b (.cells false cs') P'] (hk : ∀ H', Holds P' H' → wp (k H') Q) : wp (st n p x v H k) Q := by
  obtain ⟨hn, rfl⟩ := s.eq
  have hl := c.eq
  subst hl
  unfold st
  rw [hp, st_at h (by simpa using hx) (by simp at hx hn; omega) hc]
  exact hk _ (u.set h)
theorem w_Ld1 {k : Value → OV} (h : Holds P H) [i : Hs P b (.cells ro cs)] (hv : cs[o]? = some v) (hk : wp (k v) Q) : wp ((pLd1 (vpo b o) H).bind k) Q := w_bind (ld1_at h hv) hk
theorem w_LdN {l : List Value} {k : Value → OV} (h : Holds P H) [i : Hs P b (.cells ro cs)] [s : SubL cs o n l] (hk : wp (k (.agg l.toArray)) Q) : wp ((pLdN n (vpo b o) H).bind k) Q := by
  obtain ⟨hn, rfl⟩ := s.eq
  exact w_bind (ldN_at h hn) hk
theorem w_St {cs' l : List Value} {k : AH → OV} (h : Holds P H) [i : Hs P b (.cells false cs)] [c : Cel v l] [s : LayL cs o l cs'] (hx : l.length = n) (hc : l.all Value.oneCell' = true)
    [u : Up P b (.cells false cs') P'] (hk : ∀ H', Holds P' H' → wp (k H') Q) : wp ((pSt n (vpo b o) v H).bind k) Q := by
  obtain ⟨hn, rfl⟩ := s.eq
  have hl := c.eq
  subst hl
  rw [st_at h (by simpa using hx) (by simp at hx hn; omega) hc]
  exact hk _ (u.set h)

theorem w_newC {l : List Value} {k : Value → AH → OV} (h : Holds P H) [c : Cel x l] (hk : ∀ b H', Holds (blk b (.cells false l) * P) H' → wp (k (vp b) H') Q) : wp (newK (Value.cells x).toList H k) Q := by
  rw [c.eq]; exact w_new h hk
theorem w_S {ps : List (Nat × Nat)} {zero : List Value} {xs : List (Nat × Value)} {k : Value → OV} [f : FilL ps zero xs cs] (hk : wp (k (.agg cs.toArray)) Q) : wp (mkS ps zero xs k) Q := w_mkS f.eq hk
theorem w_R {zero : List Value} {xs : List (Nat × Value)} {k : Value → AH → OV} (h : Holds P H) [f : Fil1 e zero xs cs] (hk : ∀ b H', Holds (blk b (.cells false cs) * P) H' → wp (k (vs b 1 e) H') Q) : wp (mkR 1 e zero xs H k) Q := w_mkR h f.eq hk
/-- One place, at two times. -/
theorem w_eq1 {P2 : SP} {H2 : AH} {ro2 : Bool} {cs2 : List Value} {k : OV} (h : Holds P H) (h2 : Holds P2 H2) [i : Hs P b (.cells ro cs)] [i2 : Hs P2 b (.cells ro2 cs2)] (e : cs[o]? = cs2[o]?) (hk : wp k Q) :
    wp (eqK (pLd1 (vpo b o) H) (pLd1 (vpo b o) H2) k) Q := by
  refine w_eqK ?_ hk
  simp only [pLd1, pAt, pCells, Option.bind_some, i.get h, i2.get h2]
  exact e
theorem w_eqN {P2 : SP} {H2 : AH} {ro2 : Bool} {cs2 : List Value} {k : OV} (h : Holds P H) (h2 : Holds P2 H2) [i : Hs P b (.cells ro cs)] [i2 : Hs P2 b (.cells ro2 cs2)] (e : cs = cs2) (hk : wp k Q) :
    wp (eqK (pLdN n (vpo b o) H) (pLdN n (vpo b o) H2) k) Q := by
  refine w_eqK ?_ hk
  simp only [pLdN, pAt, pCells, Option.bind_some, i.get h, i2.get h2, e]

/-! Calls -/
/-- What a call does: of these arguments, where this stands, it tells this, and leaves that. -/
def Sp {α : Type} (f : Nat) (args : List Value) (P : SP) (v : α → Value) (Q : α → SP) : Prop := ∀ R H, Holds (P * R) H → ∃ x H', FF f args H = some (v x, H') ∧ Holds (Q x * R) H'
theorem sp_of {α : Type} {f : Nat} {args : List Value} {P : SP} {v : α → Value} {Q : α → SP} (h : ∀ R H, Holds (P * R) H → wp (FF f args H) fun v' H' => ∃ x, v' = v x ∧ Holds (Q x * R) H') : Sp f args P v Q := by
  intro R H hh
  obtain ⟨v', H', e, x, rfl, hq⟩ := h R H hh
  exact ⟨x, H', e, hq⟩
theorem w_call {α : Type} {f : Nat} {args : List Value} {P0 : SP} {v : α → Value} {Q0 : α → SP} {k : Value × AH → OV} (h : Holds P H) (s : Sp f args P0 v Q0) [fr : Fr P P0 R] (hk : ∀ x H', Holds (Q0 x * R) H' → wp (k (v x, H')) Q) : wp ((FF f args H).bind k) Q := by
  obtain ⟨x, H', e, h'⟩ := s R H h.fr
  rw [e]
  exact hk x H' h'
end
end Go.Proofs.YthagelbepgcolaaGreatDoor.Gst
