/- Rows that are read; arguments; maps; rows that are made. -/
import Derived.Test.YthagelbepgcolaaGreatDoorIb
import Derived.Test.YthagelbepgcolaaGreatDoorMe
namespace Go.Proofs.YthagelbepgcolaaGreatDoor.Gst
open Go Go.RowKit
set_option linter.unusedSimpArgs false
set_option linter.unusedVariables false

/-! ### Rows that are read -/
/-- A slice of n things of e cells; which these are. -/
def RowAt (H : AH) (s : Value) (e n : Nat) (cs : List Value) : Prop :=
  cs.length = n * e ∧ ((∃ a c, s = .slice a 0 c ∧ n = 0 ∧ (a = none → c = 0) ∧ (∀ x, a = some x → ∃ b o, x = ⟨b, o, none⟩)) ∨ ∃ b o ro row, s = .slice (some ⟨b, o, none⟩) n e ∧ H.get b = some (.cells ro row) ∧ o + n * e ≤ row.length ∧ (row.drop o).take (n * e) = cs)
class Rd {α : outParam Type} (P : SP) (s : Value) (e : outParam Nat) (enc : outParam (α → List Value)) (l : outParam (List α)) : Prop where
  rd : ∀ {H : AH}, Holds P H → RowAt H s e l.length (l.flatMap enc)
instance Rd.left {α : Type} (P Q : SP) (s : Value) (e : Nat) (enc : α → List Value) (l : List α) [r : Rd P s e enc l] : Rd (P * Q) s e enc l := ⟨fun h => r.rd h.left⟩
instance Rd.right {α : Type} (P Q : SP) (s : Value) (e : Nat) (enc : α → List Value) (l : List α) [r : Rd Q s e enc l] : Rd (P * Q) s e enc l := ⟨fun h => r.rd h.right⟩
instance Rd.own {α : Type} (s : Value) (e : Nat) (enc : α → List Value) (l : List α) : Rd (ts e enc s l) s e enc l := ⟨by
  intro H h
  have h' : Holds (ts e enc s l * emp) H := by rw [sep_emp]; exact h
  rcases sl_open h' with ⟨rfl, h2, h3, _⟩ | ⟨b, rfl, hc, h4⟩
  · exact ⟨by rw [h3, h2]; simp, .inl ⟨none, 0, rfl, h2, fun _ => rfl, fun x hx => by cases hx⟩⟩
  · exact ⟨hc, .inr ⟨b, 0, false, _, rfl, h4.left.get, by omega, by rw [List.drop_zero, ← hc, List.take_length]⟩⟩⟩

section
variable {α : Type} {P R : SP} {H : AH} {e n : Nat} {enc : α → List Value} {l m : List α} {s : Value} {Q : Value → AH → Prop}
theorem w_rlen {k : Value → OV} (h : Holds P H) [r : Rd P s e enc l] (hk : wp (k (vi l.length)) Q) : wp (lenK s k) Q := by
  obtain ⟨_, ⟨a, c, rfl, hn, _⟩ | ⟨b, o, ro, row, rfl, _⟩⟩ := r.rd h
  · rw [hn] at hk; exact hk
  · exact hk
theorem rd_len {R' : Type} {k : Value → Option R'} (h : Holds P H) [r : Rd P s e enc l] : lenK s k = k (vi l.length) := by
  obtain ⟨_, ⟨a, c, rfl, hn, _⟩ | ⟨b, o, ro, row, rfl, _⟩⟩ := r.rd h
  · rw [hn]; rfl
  · rfl
theorem w_rlenB {k : Value → OV} (h : Holds P H) [r : Rd P s e enc l] (hk : wp (k (vi l.length)) Q) : wp ((lenK s some).bind k) Q := by
  rw [rd_len h]; exact hk
theorem rd_row (h : Holds P H) [r : Rd P s e enc l] [E : Enc enc e] {i : Nat} (hi : i < l.length) : ∃ b o ro row, s = .slice (some ⟨b, o, none⟩) l.length e ∧ H.get b = some (.cells ro row) ∧ o + l.length * e ≤ row.length ∧ (row.drop o).take (l.length * e) = l.flatMap enc := by
  obtain ⟨_, ⟨a, c, rfl, hn, _⟩ | ⟨b, o, ro, row, h1, h2⟩⟩ := r.rd h
  · omega
  · exact ⟨b, o, ro, row, h1, h2⟩
theorem rd_cell [E : Enc enc e] {row : List Value} {o i g : Nat} (h : (row.drop o).take (l.length * e) = l.flatMap enc) (hi : i < l.length) (hg : g < e) : row[o + i * e + g]? = (enc l[i])[g]? := by
  rw [← flat_field E.len l i hi g hg, ← h]
  have hm : (i + 1) * e ≤ l.length * e := Nat.mul_le_mul_right _ (by omega)
  rw [Nat.add_mul] at hm
  rw [List.getElem?_take, if_pos (by omega), List.getElem?_drop]
  congr 1; omega
theorem rd_ldF {i g : Nat} {kk : IntKind} {v : Value} (h : Holds P H) [r : Rd P s e enc l] [E : Enc enc e] (hi : i < l.length) (hg : g < e) (hv : (enc l[i])[g]? = some v) {R' : Type} {p : List Stp} (hp : p = [.i e (.int kk (i : Int)), .f g] ∨ p = [.i e (.int kk (i : Int))] ∧ g = 0) {k : Value → Option R'} :
    ld p s H k = k v := by
  obtain ⟨b, o, ro, row, rfl, h2, h3, h4⟩ := rd_row (s := s) (enc := enc) (l := l) h hi
  have hend : ad p (.slice (some ⟨b, o, none⟩) l.length e) = fun k' : Value → Option R' => k' (vpo b (o + i * e + g)) := by
    rcases hp with rfl | ⟨rfl, rfl⟩
    · funext k'; rw [ad_i hi, ad_f]; rfl
    · funext k'; rw [ad_i hi]; rfl
  unfold ld
  rw [hend]
  show (pLd1 (vpo b (o + i * e + g)) H).bind k = k v
  have : pLd1 (vpo b (o + i * e + g)) H = some v := by
    simp only [pLd1, pAt, pCells, Option.bind_some, h2]
    rw [rd_cell h4 hi hg, hv]
  rw [this]; rfl
theorem w_rldF {k : Value → OV} {i g : Nat} {kk : IntKind} {v : Value} (h : Holds P H) [r : Rd P s e enc l] [E : Enc enc e] (hi : i < l.length) (hg : g < e) (hv : (enc l[i])[g]? = some v) (hk : wp (k v) Q) : wp (ld [.i e (.int kk (i : Int)), .f g] s H k) Q := by
  rw [rd_ldF h hi hg hv (.inl rfl)]; exact hk
theorem w_rld1 {k : Value → OV} {i : Nat} {kk : IntKind} {v : Value} {enc : α → List Value} (h : Holds P H) [r : Rd P s 1 enc l] [E : Enc enc 1] (hi : i < l.length) (hv : enc l[i] = [v]) (hk : wp (k v) Q) : wp (ld [.i 1 (.int kk (i : Int))] s H k) Q := by
  rw [rd_ldF (g := 0) (v := v) h hi (by omega) (by rw [hv]; rfl) (.inr ⟨rfl, rfl⟩)]; exact hk
theorem w_rldN {k : Value → OV} {i : Nat} {kk : IntKind} (h : Holds P H) [r : Rd P s e enc l] [E : Enc enc e] (hi : i < l.length) (hk : wp (k (.agg (enc l[i]).toArray)) Q) : wp (ldN e [.i e (.int kk (i : Int))] s H k) Q := by
  obtain ⟨b, o, ro, row, rfl, h2, h3, h4⟩ := rd_row (s := s) (enc := enc) (l := l) h hi
  unfold ldN
  rw [ad_i hi]
  have hm : (i + 1) * e ≤ l.length * e := Nat.mul_le_mul_right _ (by omega)
  rw [Nat.add_mul] at hm
  have : pLdN e (vpo b (o + i * e)) H = some (.agg (enc l[i]).toArray) := by
    simp only [pLdN, pAt, pCells, Option.bind_some, h2]
    rw [if_pos (by omega)]
    congr 3
    rw [← flat_at E.len l i hi, ← h4, List.drop_take, List.drop_drop, List.take_take, Nat.min_eq_left (by omega)]
  show wp ((pLdN e (vpo b (o + i * e)) H).bind k) Q
  rw [this]; exact hk
/-- A part of a row. -/
theorem rd_slice {lo hi : Option Value} {a b : Nat} (h : Holds P H) [r : Rd P s e enc l] [E : Enc enc e] (hlo : (lo = none ∧ a = 0) ∨ ∃ k, lo = some (.int k (a : Int))) (hhi : (hi = none ∧ b = l.length) ∨ ∃ k, hi = some (.int k (b : Int))) (h1 : a ≤ b) (h2 : b ≤ l.length) (h0 : 0 < l.length) :
    ∃ s', pSlice e s lo hi = some s' ∧ Rd P s' e enc ((l.take b).drop a) := by
  have hlen : ((l.take b).drop a).length = b - a := by rw [List.length_drop, List.length_take, Nat.min_eq_left h2]
  have hfl : (((l.take b).drop a).flatMap enc).length = (b - a) * e := by rw [flat_len E.len, hlen]
  have hsub : ((l.take b).drop a).flatMap enc = ((l.flatMap enc).drop (a * e)).take ((b - a) * e) := by
    have e2 : (l.drop a).take (b - a) = (l.take b).drop a := by rw [List.drop_take]
    rw [flat_drop E.len, ← e2]
    have gen : ∀ (m : List α) (k : Nat), k ≤ m.length → (m.take k).flatMap enc = (m.flatMap enc).take (k * e) := by
      intro m
      induction m with
      | nil => intro k hk; simp
      | cons x m ih =>
        intro k hk
        cases k with
        | zero => simp
        | succ k =>
          rw [List.take_succ_cons, List.flatMap_cons, List.flatMap_cons, ih k (by simpa using hk), List.take_append, E.len, List.take_of_length_le (l := enc x) (by rw [E.len, Nat.add_mul]; omega)]
          congr 2
          rw [Nat.add_mul, Nat.one_mul, Nat.add_sub_cancel]
    exact gen _ _ (by rw [List.length_drop]; omega)
  obtain ⟨h0, ⟨a0, c, rfl, hn, hc0, ha0⟩ | ⟨b0, o, ro, row, rfl, _⟩⟩ := r.rd h
  · omega
  · refine ⟨.slice (some ⟨b0, o + a * e, none⟩) (b - a) e, ?_, ⟨fun {H'} h' => ?_⟩⟩
    · have hpos := E.pos
      have hab : (0 : Int) ≤ a ∧ (a : Int) ≤ b ∧ (b : Int) ≤ l.length := by omega
      rcases hlo with ⟨rfl, rfl⟩ | ⟨k1, rfl⟩ <;> rcases hhi with ⟨rfl, rfl⟩ | ⟨k2, rfl⟩ <;> simp only [pSlice, pInt?, Option.bind_some]
      · rw [if_pos (by omega)]; simp [hpos]
      · rw [if_pos (by omega)]; simp [hpos]
      · rw [if_pos (by omega)]; simp [hpos]
      · rw [if_pos (by omega)]; simp [hpos]
    · obtain ⟨h0', hr⟩ := r.rd h'
      refine ⟨by rw [hfl, hlen], .inr ?_⟩
      rcases hr with ⟨a1, c1, e1, hn, _, _⟩ | ⟨b1, o1, ro1, row1, e1, g1, g2, g3⟩
      · omega
      · obtain ⟨rfl, rfl⟩ : b1 = b0 ∧ o1 = o := by
          have := e1; simp at this; exact ⟨this.1.symm, this.2.symm⟩
        have hm : b * e ≤ l.length * e := Nat.mul_le_mul_right _ h2
        have hm2 : a * e ≤ b * e := Nat.mul_le_mul_right _ h1
        have hm3 : (b - a) * e = b * e - a * e := Nat.sub_mul ..
        rw [hlen]
        refine ⟨b1, o1 + a * e, ro1, row1, rfl, g1, by omega, ?_⟩
        rw [hsub, ← g3, List.drop_take, List.drop_drop, List.take_take, Nat.min_eq_left (by omega)]
end

/-! ### Arguments -/
/-- All that stands in a heap. -/
def fix (H0 : AH) : SP := fun h => h = fun i => H0.get i
theorem fix_holds (H0 : AH) : Holds (fix H0) H0 := ⟨_, rfl, fun i o h => h⟩
class Fx (P : SP) (H0 : AH) : Prop where
  fx : ∀ {H : AH}, Holds P H → ∀ b o, H0.get b = some o → H.get b = some o
instance Fx.refl (H0 : AH) : Fx (fix H0) H0 := ⟨by
  rintro H ⟨x, hx, hg⟩ b o hb
  have hx : x = _ := hx
  exact hg b o (by rw [hx]; exact hb)⟩
instance Fx.left (P Q : SP) (H0 : AH) [f : Fx P H0] : Fx (P * Q) H0 := ⟨fun h => f.fx h.left⟩
instance Fx.right (P Q : SP) (H0 : AH) [f : Fx Q H0] : Fx (P * Q) H0 := ⟨fun h => f.fx h.right⟩
theorem RowAbs.flat {α : Type} {R : α → List Value → Prop} {enc : α → List Value} (hf : ∀ x c, R x c → c = enc x) {l : List α} {row : List Value} (h : RowAbs R l row) : row = l.flatMap enc := by
  induction h with
  | nil => rfl
  | cons h1 _ ih => rw [hf _ _ h1, ih]; rfl
/-- A row of an argument. -/
theorem Rd.arg {H0 : AH} {t : Ty} {enc : t.I → List Value} {l : List t.I} {v : Value} [E : Enc enc t.w] (hf : ∀ x c, Abs H0 t x c → c = enc x) (h : Abs H0 (.slice t) l [v]) : Rd (fix H0) v t.w enc l := ⟨fun {H} hH => by
  refine ⟨flat_len E.len l, ?_⟩
  rcases h with ⟨rfl, e⟩ | ⟨rfl, b, e⟩ | ⟨b, row, h1, e, h3, _⟩
  · obtain rfl : v = .slice none 0 0 := by simpa using e
    exact .inl ⟨none, 0, rfl, rfl, fun _ => rfl, fun x hx => by cases hx⟩
  · obtain rfl : v = .slice (some ⟨b, 0, none⟩) 0 0 := by simpa using e
    exact .inl ⟨_, 0, rfl, rfl, (fun h => by cases h), fun x hx => ⟨b, 0, (Option.some.inj hx).symm⟩⟩
  · obtain rfl : v = .slice (some ⟨b, 0, none⟩) l.length t.w := by simpa using e
    have hrow := h3.flat hf
    refine .inr ⟨b, 0, true, row, rfl, (Fx.refl H0).fx hH b _ h1, ?_, ?_⟩
    · rw [hrow, flat_len E.len]; omega
    · rw [List.drop_zero, hrow, ← flat_len E.len l, List.take_length]⟩
theorem arg_max {H0 : AH} {t : Ty} {l : List t.I} {v : Value} (h : Abs H0 (.slice t) l [v]) : l.length ≤ maxLen := by
  rcases h with ⟨rfl, _⟩ | ⟨rfl, _⟩ | ⟨_, _, _, _, _, h⟩
  · simp
  · simp
  · exact h

/-! ### What a call tells that changes nothing -/
theorem w_ro {P : SP} {H : AH} {f : Nat} {args : List Value} {v : Value} {k : Value × AH → OV} {Q : Value → AH → Prop} (h : Holds P H) (s : Sp f args P (fun _ : Unit => v) (fun _ => P)) (hk : ∀ H', Holds P H' → wp (k (v, H')) Q) : wp ((FF f args H).bind k) Q := by
  obtain ⟨x, H', e, h'⟩ := s emp H (by rw [sep_emp]; exact h)
  rw [e]
  rw [sep_emp] at h'
  exact hk H' h'

/-! ### More behind a row; a row that is made -/
section
variable {α : Type} {P R : SP} {H : AH} {e : Nat} {enc : α → List Value} {l m : List α} {s x : Value} {Q : Value → AH → Prop}
theorem w_rapp {bytes : Nat} {kk : Value × AH → OV} (h : Holds P H) [f : Ts P s α e enc l R] [rd : Rd R x e enc m] [E : Enc enc e] (hr : (l.length + m.length) * bytes ≤ room) (hb : 0 < bytes)
    (hk : ∀ v H', Holds (ts e enc v (l ++ m) * R) H' → wp (kk (v, H')) Q) : wp ((pApp e bytes s x H).bind kk) Q := by
  have h' : Holds (ts e enc s l * R) H := by rw [← f.eq]; exact h
  obtain ⟨hc, ⟨a, c, rfl, hn, _, hax⟩ | ⟨b, o, ro, row, rfl, hg, hle, hrow⟩⟩ := rd.rd h'.right
  · have hm : m = [] := List.eq_nil_of_length_eq_zero hn
    subst hm
    have hpr : pRow e (.slice a 0 c) H = some (0, []) := by
      cases a with
      | none => simp [pRow]
      | some y => obtain ⟨b, o, rfl⟩ := hax y rfl; simp [pRow]
    unfold pApp
    rw [hpr]
    simp only [Option.bind_some]
    rw [if_pos ⟨rfl, E.pos⟩]
    rcases sl_open h' with ⟨rfl, h2, h3, h4⟩ | ⟨b', rfl, h2, h4⟩
    · simp only [and_self, if_true, Option.bind_some]
      refine hk _ _ ?_
      rw [List.append_nil]; exact h'
    · simp only [if_true, Option.bind_some]
      refine hk _ _ ?_
      rw [List.append_nil]; exact h'
  · by_cases hm0 : m.length = 0
    · have hm : m = [] := List.eq_nil_of_length_eq_zero hm0
      subst hm
      unfold pApp
      have hpr : pRow e (.slice (some ⟨b, o, none⟩) ([] : List α).length e) H = some (0, []) := by simp [pRow]
      rw [hpr]
      simp only [Option.bind_some]
      rw [if_pos ⟨rfl, E.pos⟩]
      rcases sl_open h' with ⟨rfl, h2, h3, h4⟩ | ⟨b', rfl, h2, h4⟩
      · simp only [and_self, if_true, Option.bind_some]
        refine hk _ _ ?_
        rw [List.append_nil]; exact h'
      · simp only [if_true, Option.bind_some]
        refine hk _ _ ?_
        rw [List.append_nil]; exact h'
    · have hpr : pRow e (.slice (some ⟨b, o, none⟩) m.length e) H = some (m.length, m.flatMap enc) := by
        simp only [pRow, pCells, hg, Option.bind_some]
        rw [if_neg hm0, if_pos hle, hrow]
      have hall : (m.flatMap enc).all Value.oneCell' = true := by
        rw [List.all_eq_true]
        intro y hy
        obtain ⟨z, _, hz⟩ := List.mem_flatMap.1 hy
        exact List.all_eq_true.1 (E.one z) y hz
      have hroom : l.length + m.length ≤ (l.length + m.length) * bytes := Nat.le_mul_of_pos_right _ hb
      unfold pApp
      rw [hpr]
      simp only [Option.bind_some]
      rw [if_pos ⟨hall, E.pos⟩]
      have e1 : (l ++ m).length = l.length + m.length := by simp
      have e2 : (l ++ m).flatMap enc = l.flatMap enc ++ m.flatMap enc := by simp
      have hmul : (l.length + m.length) * e = l.length * e + m.length * e := Nat.add_mul ..
      rcases sl_open h' with ⟨rfl, h2, h3, h4⟩ | ⟨b', rfl, h2, h4⟩
      · simp only [and_self, if_true]
        rw [h2, Nat.zero_add] at hr hroom
        rw [if_neg hm0, if_pos ⟨hr, by omega⟩]
        simp only [Option.bind_some]
        refine hk _ _ ?_
        unfold ts
        rw [e1, e2, h3, h2, List.nil_append, Nat.zero_add]
        exact sl_some hc (h4.push _)
      · have hgb := h4.left.get
        have hpos := E.pos
        simp only
        rw [if_neg hm0, if_neg (by omega), hgb]
        simp only
        rw [if_pos ⟨trivial, by omega, hr, by omega⟩]
        simp only [Option.bind_some, List.drop_zero]
        rw [← h2, List.take_length]
        have h5 := h4.dead.push (.cells false (l.flatMap enc ++ m.flatMap enc))
        rw [AH.size_set] at h5
        refine hk _ _ ?_
        unfold ts
        rw [e1, e2]
        exact sl_some (by rw [List.length_append, h2, hc]; omega) h5
theorem replicate_flat {z : α} {zero : List Value} (hz : enc z = zero) : ∀ n : Nat, (List.replicate n zero).flatten = (List.replicate n z).flatMap enc := by
  intro n
  induction n with
  | zero => rfl
  | succ n ih => rw [List.replicate_succ, List.replicate_succ, List.flatten_cons, List.flatMap_cons, ih, hz]
theorem w_make {zero : List Value} {bytes n : Nat} {kk : Value × AH → OV} (z : α) (h : Holds P H) [E : Enc enc e] (hz : enc z = zero) (hr : n * bytes ≤ room) (hb : 0 < bytes) (hk : ∀ b H', Holds (ts e enc (vs b n e) (List.replicate n z) * P) H' → wp (kk (vs b n e, H')) Q) :
    wp ((pMake zero e bytes (vi n) (vi n) H).bind kk) Q := by
  have hroom : n ≤ n * bytes := Nat.le_mul_of_pos_right _ hb
  have hz2 : zero.length = e := by rw [← hz, E.len]
  unfold pMake
  simp only [Int.toNat_natCast]
  rw [if_pos ⟨by omega, trivial, hr, by omega, E.pos, hz2⟩]
  simp only [Option.bind_some]
  refine hk _ _ ?_
  have h2 := h.push (.cells false (List.replicate n zero).flatten)
  rw [replicate_flat hz] at h2 ⊢
  have h3 := ts_back (e := e) (enc := enc) (l := List.replicate n z) h2
  rw [List.length_replicate] at h3
  exact h3
end

/-! ### Maps -/
class KeyE {κ : Type} [DecidableEq κ] (cl : outParam KCls) (ek : κ → Value) : Prop where
  eq : ∀ a b, keyEq cl (ek a) (ek b) = some (decide (a = b))
  ok : ∀ a, keyOK cl (ek a) = true
inductive Ents {κ : Type} (ek : κ → Value) : List (κ × Value) → List MapEntry → Prop
  | nil : Ents ek [] []
  | cons {p : κ × Value} {l : List (κ × Value)} {e : MapEntry} {es : List MapEntry} (h1 : e.key = ek p.1) (h2 : e.val = p.2) (k : Ents ek l es) : Ents ek (p :: l) (e :: es)
section
variable {κ : Type} [DecidableEq κ] {ek : κ → Value} {cl : KCls}
def mGet : List (κ × Value) → κ → Option Value
  | [], _ => none
  | p :: al, k => if k = p.1 then some p.2 else mGet al k
def mSet : List (κ × Value) → κ → Value → List (κ × Value)
  | [], k, v => [(k, v)]
  | p :: al, k, v => if k = p.1 then (k, v) :: al else p :: mSet al k v
theorem mGet_set (k : κ) (v : Value) (x : κ) : ∀ al, mGet (mSet al k v) x = if x = k then some v else mGet al x := by
  intro al
  induction al with
  | nil => simp only [mSet, mGet]
  | cons p al ih =>
    simp only [mSet]
    by_cases hk : k = p.1
    · rw [if_pos hk]
      simp only [mGet]
      by_cases hx : x = k
      · simp [hx]
      · have : ¬ x = p.1 := by rw [← hk]; exact hx
        simp [hx, this]
    · rw [if_neg hk]
      simp only [mGet, ih]
      by_cases hx : x = p.1
      · have : ¬ x = k := by rw [hx]; exact fun h => hk h.symm
        simp [hx]
        intro h; exact absurd h.symm hk
      · simp [hx]
theorem m_find [K : KeyE cl ek] {al : List (κ × Value)} {es : List MapEntry} (h : Ents ek al es) (k : κ) : ∀ i, ∃ r, findKey' cl (ek k) es i = some r ∧ r.map (·.2) = mGet al k := by
  induction h with
  | nil => intro i; exact ⟨none, rfl, rfl⟩
  | @cons p l e es h1 h2 _ ih =>
    intro i
    simp only [findKey', h1, K.eq, Option.bind_some, mGet]
    by_cases hp : k = p.1
    · rw [if_pos (by simp [hp]), if_pos hp]
      exact ⟨_, rfl, by simp [h2]⟩
    · rw [if_neg (by simp [hp]), if_neg hp]
      exact ih (i + 1)
theorem m_upd [K : KeyE cl ek] {al : List (κ × Value)} {es : List MapEntry} (h : Ents ek al es) (k : κ) (v : Value) : ∀ i, match findKey' cl (ek k) es i with
    | some (some (j, _)) => i ≤ j ∧ Ents ek (mSet al k v) (es.modify (j - i) fun e => { e with key := ek k, val := v })
    | some none => ∀ born, Ents ek (mSet al k v) (es ++ [{ key := ek k, val := v, born := born }])
    | none => False := by
  induction h with
  | nil => intro i born; exact .cons rfl rfl .nil
  | @cons p l e es h1 h2 hh ih =>
    intro i
    simp only [findKey', h1, K.eq, Option.bind_some, mSet]
    by_cases hp : k = p.1
    · rw [if_pos (show decide (k = p.1) = true by simp [hp]), if_pos hp]
      refine ⟨Nat.le_refl _, ?_⟩
      simp only [Nat.sub_self]
      exact .cons rfl rfl hh
    · rw [if_neg (show ¬ decide (k = p.1) = true by simp [hp]), if_neg hp]
      have hi := ih (i + 1)
      cases hf : findKey' cl (ek k) es (i + 1) with
      | none => rw [hf] at hi; exact hi
      | some r =>
        rw [hf] at hi
        cases r with
        | none => intro born; exact .cons h1 h2 (hi born)
        | some r =>
          obtain ⟨j, v'⟩ := r
          simp only at hi ⊢
          refine ⟨by omega, ?_⟩
          rw [show j - i = (j - (i + 1)) + 1 from by omega]
          exact .cons h1 h2 hi.2
/-- A map that tells this. -/
def mpS (ek : κ → Value) (b : Nat) (f : κ → Option Value) : SP := ex fun g : List (κ × Value) × List MapEntry × Nat => pu (Ents ek g.1 g.2.1 ∧ ∀ k, mGet g.1 k = f k) * blk b (.map g.2.1 g.2.2)
class Mp (P : SP) (b : Nat) {κ : Type} [DecidableEq κ] (ek : κ → Value) (f : outParam (κ → Option Value)) (R : outParam SP) : Prop where
  eq : P = mpS ek b f * R
instance (priority := high) Mp.refl {κ : Type} [DecidableEq κ] (b : Nat) (ek : κ → Value) (f : κ → Option Value) : Mp (mpS ek b f) b ek f emp := ⟨(sep_emp _).symm⟩
instance Mp.left {κ : Type} [DecidableEq κ] (P Q R : SP) (b : Nat) (ek : κ → Value) (f : κ → Option Value) [h : Mp P b ek f R] : Mp (P * Q) b ek f (R * Q) := ⟨by rw [h.eq, sep_assoc]⟩
instance Mp.right {κ : Type} [DecidableEq κ] (P Q R : SP) (b : Nat) (ek : κ → Value) (f : κ → Option Value) [h : Mp Q b ek f R] : Mp (P * Q) b ek f (P * R) := ⟨by rw [h.eq, sep_left_comm]⟩
theorem mpS_new {R : SP} {H : AH} {b : Nat} (ek : κ → Value) (h : Holds (blk b (.map [] 0) * R) H) : Holds (mpS ek b (fun _ => none) * R) H :=
  Holds.ex.2 ⟨([], [], 0), by rw [sep_assoc]; exact Holds.pu.2 ⟨⟨.nil, fun _ => rfl⟩, h⟩⟩
theorem w_mlook {P R : SP} {H : AH} {b : Nat} {f : κ → Option Value} {zero : Value} {kk : Value → OV} {Q : Value → AH → Prop} [K : KeyE cl ek] (k : κ) (h : Holds P H) [m : Mp P b ek f R]
    (hk : wp (kk ((f k).getD zero)) Q) : wp ((pLookup cl zero (.map (some b)) (ek k) false H).bind kk) Q := by
  have h' : Holds (mpS ek b f * R) H := by rw [← m.eq]; exact h
  obtain ⟨⟨al, es, c⟩, h'⟩ := Holds.ex.1 h'
  rw [sep_assoc, Holds.pu] at h'
  obtain ⟨⟨he, hf⟩, h'⟩ := h'
  dsimp only at he hf h'
  obtain ⟨r, h1, h2⟩ := m_find he k 0
  refine w_bind ?_ hk
  unfold pLookup
  rw [if_pos (K.ok k)]
  simp only [pMapOf, h'.left.get, Option.bind_some, h1, Option.map_some]
  rw [← hf k, ← h2]
  cases r <;> rfl
theorem w_mlook2 {P R : SP} {H : AH} {b : Nat} {f : κ → Option Value} {zero : Value} {kk : Value → OV} {Q : Value → AH → Prop} [K : KeyE cl ek] (k : κ) (h : Holds P H) [m : Mp P b ek f R]
    (hk : wp (kk (.tuple #[(f k).getD zero, vb (f k).isSome])) Q) : wp ((pLookup cl zero (.map (some b)) (ek k) true H).bind kk) Q := by
  have h' : Holds (mpS ek b f * R) H := by rw [← m.eq]; exact h
  obtain ⟨⟨al, es, c⟩, h'⟩ := Holds.ex.1 h'
  rw [sep_assoc, Holds.pu] at h'
  obtain ⟨⟨he, hf⟩, h'⟩ := h'
  dsimp only at he hf h'
  obtain ⟨r, h1, h2⟩ := m_find he k 0
  refine w_bind ?_ hk
  unfold pLookup
  rw [if_pos (K.ok k)]
  simp only [pMapOf, h'.left.get, Option.bind_some, h1, Option.map_some]
  rw [← hf k, ← h2]
  cases r <;> rfl
theorem w_mset {P R : SP} {H : AH} {b : Nat} {f : κ → Option Value} {kk : AH → OV} {Q : Value → AH → Prop} [K : KeyE cl ek] (k : κ) (v : Value) (h : Holds P H) [m : Mp P b ek f R]
    (hk : ∀ H', Holds (mpS ek b (fun x => if x = k then some v else f x) * R) H' → wp (kk H') Q) : wp ((pUpdate cl (.map (some b)) (ek k) v H).bind kk) Q := by
  have h' : Holds (mpS ek b f * R) H := by rw [← m.eq]; exact h
  obtain ⟨⟨al, es, c⟩, h'⟩ := Holds.ex.1 h'
  rw [sep_assoc, Holds.pu] at h'
  obtain ⟨⟨he, hf⟩, h'⟩ := h'
  dsimp only at he hf h'
  have hu := m_upd he k v 0
  unfold pUpdate
  rw [if_pos (K.ok k)]
  simp only [h'.left.get]
  have fin : ∀ {es' : List MapEntry} {c' : Nat}, Ents ek (mSet al k v) es' → Holds (mpS ek b (fun x => if x = k then some v else f x) * R) (H.set b (.map es' c')) := fun {es'} {c'} he' =>
    Holds.ex.2 ⟨(mSet al k v, es', c'), by
      rw [sep_assoc]
      exact Holds.pu.2 ⟨⟨he', fun x => by rw [mGet_set, hf]⟩, h'.set _⟩⟩
  cases hf' : findKey' cl (ek k) es 0 with
  | none => rw [hf'] at hu; exact absurd hu id
  | some r =>
    rw [hf'] at hu
    cases r with
    | none =>
      simp only [Option.map_some, Option.bind_some]
      exact hk _ (fin (hu c))
    | some r =>
      obtain ⟨j, v'⟩ := r
      simp only [Option.map_some, Option.bind_some]
      exact hk _ (fin hu.2)
end
end Go.Proofs.YthagelbepgcolaaGreatDoor.Gst
