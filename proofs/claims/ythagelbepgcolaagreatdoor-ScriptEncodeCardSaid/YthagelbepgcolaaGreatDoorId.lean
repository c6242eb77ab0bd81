/- Whole numbers, once more; what a guard lets be read. -/
import Derived.Test.YthagelbepgcolaaGreatDoorIc
namespace Go.Proofs.YthagelbepgcolaaGreatDoor.Gst
open Go Go.RowKit
set_option linter.unusedSimpArgs false
set_option linter.unusedVariables false
/-! ### Whole numbers, once more -/
section
variable {cl : TCls} {w : Nat}
theorem shr61 : pBin cl .shr (vu w) (vw 61) = some (vu (w / 2305843009213693952)) := by
  have := bin_shr_u (cl := cl) (a := w) (k := .u64) (n := 61) (by omega)
  simpa using this
theorem shr32 : pBin cl .shr (vu w) (vw 32) = some (vu (w / 4294967296)) := by
  have := bin_shr_u (cl := cl) (a := w) (k := .u64) (n := 32) (by omega)
  simpa using this
theorem and_low (k : Nat) (hw : w < 18446744073709551616) (hk : 2 ^ k - 1 < 18446744073709551616) : pBin cl .and (vu w) (.int .u64 ((2 ^ k - 1 : Nat) : Int)) = some (vu (w % 2 ^ k)) := by
  have := bin_and (cl := cl) hw hk
  rw [Nat.and_two_pow_sub_one_eq_mod] at this
  exact this
theorem and61 (hw : w < 18446744073709551616) : pBin cl .and (vu w) (vw 2305843009213693951) = some (vu (w % 2305843009213693952)) := by
  have := and_low (cl := cl) 61 hw (by omega)
  simpa using this
theorem and32 (hw : w < 18446744073709551616) : pBin cl .and (vu w) (vw 4294967295) = some (vu (w % 4294967296)) := by
  have := and_low (cl := cl) 32 hw (by omega)
  simpa using this
theorem rem_l (n : Nat) (h : n ≠ 0) : pBin cl .rem (vu w) (.int .u64 (n : Int)) = some (vu (w % n)) := bin_rem_u h
theorem quo_l (n : Nat) (h : n ≠ 0) (hw : w < 18446744073709551616) : pBin cl .quo (vu w) (.int .u64 (n : Int)) = some (vu (w / n)) := bin_quo_u h hw
theorem mul_l (n : Nat) : pBin cl .mul (vu w) (.int .u64 (n : Int)) = some (vu (w * n % 18446744073709551616)) := bin_mul_u
theorem mul61 (h : w * 2305843009213693952 < 18446744073709551616) : pBin cl .mul (vu w) (vw 2305843009213693952) = some (vu (w * 2305843009213693952)) := by
  have := mul_l (cl := cl) (w := w) 2305843009213693952
  rw [Nat.mod_eq_of_lt h] at this
  simpa using this
theorem mul32 : pBin cl .mul (vu w) (vw 4294967296) = some (vu (w * 4294967296 % 18446744073709551616)) := by
  have := mul_l (cl := cl) (w := w) 4294967296
  simpa using this
theorem rem61 : pBin cl .rem (vu w) (vw 2305843009213693952) = some (vu (w % 2305843009213693952)) := by
  have := rem_l (cl := cl) (w := w) 2305843009213693952 (by omega)
  simpa using this
theorem quo61 (hw : w < 18446744073709551616) : pBin cl .quo (vu w) (vw 2305843009213693952) = some (vu (w / 2305843009213693952)) := by
  have := quo_l (cl := cl) (w := w) 2305843009213693952 (by omega) hw
  simpa using this
theorem rem32 : pBin cl .rem (vu w) (vw 4294967296) = some (vu (w % 4294967296)) := by
  have := rem_l (cl := cl) (w := w) 4294967296 (by omega)
  simpa using this
theorem quo32 (hw : w < 18446744073709551616) : pBin cl .quo (vu w) (vw 4294967296) = some (vu (w / 4294967296)) := by
  have := quo_l (cl := cl) (w := w) 4294967296 (by omega) hw
  simpa using this
theorem conv_iu {w : Nat} (hw : w < 9223372036854775808) : pConv (some .i64) (vu w) = some (vi (w : Int)) := by
  simp only [pConv]
  rw [wrap_i_of (by omega) (by omega)]
theorem conv_ui {n : Int} (h0 : 0 ≤ n) (h1 : n < 18446744073709551616) : pConv (some .u64) (vi n) = some (vu n.toNat) := by
  simp only [pConv]
  rw [wrap_u_of h0 h1]
  show _ = some (Value.int .u64 ((n.toNat : Nat) : Int))
  rw [Int.toNat_of_nonneg h0]
end
theorem neq_u {cl : TCls} {a b : Nat} : pBin cl .neq (vu a) (vu b) = some (vb (a != b)) := by
  rw [bin_neq]
  congr 2
  rw [Bool.eq_iff_iff]
  simp
  omega
theorem eql_u {cl : TCls} {a b : Nat} : pBin cl .eql (vu a) (vu b) = some (vb (a == b)) := by
  rw [bin_eql]
  congr 2
  rw [Bool.eq_iff_iff]
  simp
  omega
theorem add_u {cl : TCls} {a b : Nat} : pBin cl .add (vu a) (vu b) = some (vu ((a + b) % 18446744073709551616)) := by
  simp only [pBin, pInt, if_true]
  rw [wrap_u]
  simp
theorem eqCells3 (a b : Loc) : pBin (.flat 3) .eql (.agg #[vi a.1, vi a.2.1, vi a.2.2]) (.agg #[vi b.1, vi b.2.1, vi b.2.2]) = some (vb (a == b)) := by
  show (pEq (.flat 3) (.agg #[vi a.1, vi a.2.1, vi a.2.2]) (.agg #[vi b.1, vi b.2.1, vi b.2.2])).map (fun b => Value.bool b) = _
  simp only [pEq]
  rw [if_pos ⟨rfl, rfl⟩]
  simp only [eqCells, if_true, Option.map_some, Bool.and_true]
  rfl
theorem neCells3 (a b : Loc) : pBin (.flat 3) .neq (.agg #[vi a.1, vi a.2.1, vi a.2.2]) (.agg #[vi b.1, vi b.2.1, vi b.2.2]) = some (vb (!(a == b))) := by
  show (pEq (.flat 3) (.agg #[vi a.1, vi a.2.1, vi a.2.2]) (.agg #[vi b.1, vi b.2.1, vi b.2.2])).map (fun b => Value.bool !b) = _
  simp only [pEq]
  rw [if_pos ⟨rfl, rfl⟩]
  simp only [eqCells, if_true, Option.map_some, Bool.and_true]
  rfl
theorem bin_mul_i {cl : TCls} {a b : Int} (h0 : -9223372036854775808 ≤ a * b) (h1 : a * b < 9223372036854775808) : pBin cl .mul (vi a) (vi b) = some (vi (a * b)) := by simp only [pBin, pInt, if_true, wrap_i_of h0 h1]
section
variable {cl : TCls} {k : IntKind} {a b : Int}
theorem lss_t (h : a < b) : pBin cl .lss (.int k a) (.int k b) = some (vb true) := by rw [bin_lss, decide_eq_true h]
theorem lss_f (h : ¬ a < b) : pBin cl .lss (.int k a) (.int k b) = some (vb false) := by rw [bin_lss, decide_eq_false h]
theorem leq_t (h : a ≤ b) : pBin cl .leq (.int k a) (.int k b) = some (vb true) := by rw [bin_leq, decide_eq_true h]
theorem leq_f (h : ¬ a ≤ b) : pBin cl .leq (.int k a) (.int k b) = some (vb false) := by rw [bin_leq, decide_eq_false h]
theorem gtr_t (h : b < a) : pBin cl .gtr (.int k a) (.int k b) = some (vb true) := by rw [bin_gtr, decide_eq_true h]
theorem gtr_f (h : ¬ b < a) : pBin cl .gtr (.int k a) (.int k b) = some (vb false) := by rw [bin_gtr, decide_eq_false h]
theorem geq_t (h : b ≤ a) : pBin cl .geq (.int k a) (.int k b) = some (vb true) := by rw [bin_geq, decide_eq_true h]
theorem geq_f (h : ¬ b ≤ a) : pBin cl .geq (.int k a) (.int k b) = some (vb false) := by rw [bin_geq, decide_eq_false h]
theorem eql_t (h : a = b) : pBin cl .eql (.int k a) (.int k b) = some (vb true) := by rw [bin_eql, beq_iff_eq.2 h]
theorem eql_f (h : ¬ a = b) : pBin cl .eql (.int k a) (.int k b) = some (vb false) := by rw [bin_eql, beq_eq_false_iff_ne.2 h]
theorem neq_t (h : ¬ a = b) : pBin cl .neq (.int k a) (.int k b) = some (vb true) := by rw [bin_neq, bne_iff_ne.2 h]
theorem neq_f (h : a = b) : pBin cl .neq (.int k a) (.int k b) = some (vb false) := by
  rw [bin_neq]
  simp [h]
end
/-- Where the guard says so. -/
theorem gB_y {c : Bool} {e : Option Value} {v : Value} (h : e = some v) : gB (vb c) c e = some v := by
  cases c <;> (rw [h]; rfl)
theorem gV_tt {v : Value} : gV (vb true) true v = some v := rfl
theorem gV_ff {v : Value} : gV (vb false) false v = some v := rfl
theorem gV_tf {v : Value} : gV (vb true) false v = some undef := rfl
theorem gV_ft {v : Value} : gV (vb false) true v = some undef := rfl
theorem gB_tf {e : Option Value} : gB (vb true) false e = some undef := rfl
theorem gB_ft {e : Option Value} : gB (vb false) true e = some undef := rfl
section
variable {H : AH} {e : Option (Value × AH)} {k : Value × AH → OV} {Q : Value → AH → Prop} {x : Option Value} {kv : Value → OV}
theorem w_gE_tt (h : wp (e.bind k) Q) : wp ((gE (vb true) true H e).bind k) Q := h
theorem w_gE_ff (h : wp (e.bind k) Q) : wp ((gE (vb false) false H e).bind k) Q := h
theorem w_gE_tf (h : wp (k (undef, H)) Q) : wp ((gE (vb true) false H e).bind k) Q := h
theorem w_gE_ft (h : wp (k (undef, H)) Q) : wp ((gE (vb false) true H e).bind k) Q := h
theorem w_onK_tt (h : wp (x.bind kv) Q) : wp ((onK (yv (vb true)) true x (some undef)).bind kv) Q := h
theorem w_onK_ff (h : wp (x.bind kv) Q) : wp ((onK (yv (vb false)) false x (some undef)).bind kv) Q := h
theorem w_onK_tf (h : wp (kv undef) Q) : wp ((onK (yv (vb true)) false x (some undef)).bind kv) Q := h
theorem w_onK_ft (h : wp (kv undef) Q) : wp ((onK (yv (vb false)) true x (some undef)).bind kv) Q := h
end

theorem gB_on (c : Bool) (e : Option Value) : gB (vb c) c e = e := by cases c <;> cases e <;> rfl
theorem gad_on {R : Type} (c : Bool) (k : Value → Option R) : ∀ (p : List Stp) (x : Value), gad (vb c) c p x k = ad p x k := by
  intro p
  induction p with
  | nil => intro x; rfl
  | cons s p ih => intro x; cases s <;> simp only [gad, ad, gB_on, ih]
theorem gad_off {R : Type} (c : Bool) (k : Value → Option R) (hk : ∀ x, k x = k undef) : ∀ (p : List Stp) (x : Value), gad (vb c) (!c) p x k = k undef := by
  intro p
  induction p with
  | nil => intro x; exact hk x
  | cons s p ih => intro x; cases c <;> cases s <;> exact ih undef
section
variable {H : AH} {p : List Stp} {x : Value} {k : Value → OV} {Q : Value → AH → Prop} {n : Nat}
theorem gld_on {R : Type} (c : Bool) (k : Value → Option R) : gld (vb c) c p x H k = ld p x H k := by simp only [gld, ld, gad_on, gB_on]
theorem gldN_on {R : Type} (c : Bool) (k : Value → Option R) : gldN (vb c) c n p x H k = ldN n p x H k := by simp only [gldN, ldN, gad_on, gB_on]
theorem gld_off {R : Type} (c : Bool) (k : Value → Option R) : gld (vb c) (!c) p x H k = k undef := by
  unfold gld
  rw [gad_off c _ (fun x => by cases c <;> rfl)]
  cases c <;> rfl
theorem gldN_off {R : Type} (c : Bool) (k : Value → Option R) : gldN (vb c) (!c) n p x H k = k undef := by
  unfold gldN
  rw [gad_off c _ (fun x => by cases c <;> rfl)]
  cases c <;> rfl
theorem w_gld_tt (h : wp (ld p x H k) Q) : wp (gld (vb true) true p x H k) Q := by rw [gld_on]; exact h
theorem w_gld_ff (h : wp (ld p x H k) Q) : wp (gld (vb false) false p x H k) Q := by rw [gld_on]; exact h
theorem w_gld_tf (h : wp (k undef) Q) : wp (gld (vb true) false p x H k) Q := by rw [show (false : Bool) = !true from rfl, gld_off]; exact h
theorem w_gld_ft (h : wp (k undef) Q) : wp (gld (vb false) true p x H k) Q := by rw [show gld (vb false) true p x H k = gld (vb false) (!false) p x H k from rfl, gld_off]; exact h
theorem w_gldN_tt (h : wp (ldN n p x H k) Q) : wp (gldN (vb true) true n p x H k) Q := by rw [gldN_on]; exact h
theorem w_gldN_ff (h : wp (ldN n p x H k) Q) : wp (gldN (vb false) false n p x H k) Q := by rw [gldN_on]; exact h
theorem w_gldN_tf (h : wp (k undef) Q) : wp (gldN (vb true) false n p x H k) Q := by rw [show gldN (vb true) false n p x H k = gldN (vb true) (!true) n p x H k from rfl, gldN_off]; exact h
theorem w_gldN_ft (h : wp (k undef) Q) : wp (gldN (vb false) true n p x H k) Q := by rw [show gldN (vb false) true n p x H k = gldN (vb false) (!false) n p x H k from rfl, gldN_off]; exact h
theorem w_gB_tt {e : Option Value} (h : wp (e.bind k) Q) : wp ((gB (vb true) true e).bind k) Q := by rw [gB_on]; exact h
theorem w_gB_ff {e : Option Value} (h : wp (e.bind k) Q) : wp ((gB (vb false) false e).bind k) Q := by rw [gB_on]; exact h
theorem w_cond_t {a b : OV} (h : wp a Q) : wp (condK (vb true) a b) Q := h
theorem w_cond_f {a b : OV} (h : wp b Q) : wp (condK (vb false) a b) Q := h
end
theorem gV_u {b : Bool} {v : Value} : gV undef b v = some undef := rfl
theorem gB_u {b : Bool} {e : Option Value} : gB undef b e = some undef := rfl
theorem gad_u {R : Type} (b : Bool) (k : Value → Option R) (hk : ∀ x, k x = k undef) : ∀ (p : List Stp) (x : Value), gad undef b p x k = k undef := by
  intro p
  induction p with
  | nil => intro x; exact hk x
  | cons s p ih => intro x; cases s <;> exact ih undef
theorem gld_u {R : Type} {b : Bool} {p : List Stp} {x : Value} {H : AH} (k : Value → Option R) : gld undef b p x H k = k undef := by
  unfold gld
  rw [gad_u b _ (fun x => rfl)]
  rfl
theorem w_gld_u {b : Bool} {p : List Stp} {x : Value} {H : AH} {k : Value → OV} {Q : Value → AH → Prop} (h : wp (k undef) Q) : wp (gld undef b p x H k) Q := by rw [gld_u]; exact h
/-! ### One guard less -/
class Gd (x : OV) (y : outParam OV) : Prop where
  go : ∀ {Q : Value → AH → Prop}, wp y Q → wp x Q
theorem gg {x y : OV} {Q : Value → AH → Prop} [g : Gd x y] (h : wp y Q) : wp x Q := g.go h
section
variable {a b v : Value} {k : Value → OV} {H : AH} {e : Option (Value × AH)} {e1 : Option Value} {ke : Value × AH → OV} {p : List Stp} {x : Value} {n : Nat} {c : Bool} {o1 o2 : OV}
instance : Gd ((pPick (vb true) a b).bind k) (k a) := ⟨w_bind (pick_t _ _)⟩
instance : Gd ((pPick (vb false) a b).bind k) (k b) := ⟨w_bind (pick_f _ _)⟩
instance : Gd ((gV (vb true) true v).bind k) (k v) := ⟨w_bind gV_tt⟩
instance : Gd ((gV (vb false) false v).bind k) (k v) := ⟨w_bind gV_ff⟩
instance : Gd ((gV (vb true) false v).bind k) (k undef) := ⟨w_bind gV_tf⟩
instance : Gd ((gV (vb false) true v).bind k) (k undef) := ⟨w_bind gV_ft⟩
instance : Gd ((gB (vb true) false e1).bind k) (k undef) := ⟨w_bind gB_tf⟩
instance : Gd ((gB (vb false) true e1).bind k) (k undef) := ⟨w_bind gB_ft⟩
instance : Gd ((gE (vb true) false H e).bind ke) (ke (undef, H)) := ⟨w_gE_tf⟩
instance : Gd ((gE (vb false) true H e).bind ke) (ke (undef, H)) := ⟨w_gE_ft⟩
instance : Gd ((gE (vb true) true H e).bind ke) (e.bind ke) := ⟨w_gE_tt⟩
instance : Gd ((gE (vb false) false H e).bind ke) (e.bind ke) := ⟨w_gE_ff⟩
instance : Gd ((onK (yv (vb true)) false e1 (some undef)).bind k) (k undef) := ⟨w_onK_tf⟩
instance : Gd ((onK (yv (vb false)) true e1 (some undef)).bind k) (k undef) := ⟨w_onK_ft⟩
instance : Gd ((onK (yv (vb true)) true e1 (some undef)).bind k) (e1.bind k) := ⟨w_onK_tt⟩
instance : Gd ((onK (yv (vb false)) false e1 (some undef)).bind k) (e1.bind k) := ⟨w_onK_ff⟩
instance : Gd (gld (vb true) true p x H k) (ld p x H k) := ⟨w_gld_tt⟩
instance : Gd (gld (vb false) false p x H k) (ld p x H k) := ⟨w_gld_ff⟩
instance : Gd (gld (vb true) false p x H k) (k undef) := ⟨w_gld_tf⟩
instance : Gd (gld (vb false) true p x H k) (k undef) := ⟨w_gld_ft⟩
instance : Gd (gldN (vb true) true n p x H k) (ldN n p x H k) := ⟨w_gldN_tt⟩
instance : Gd (gldN (vb false) false n p x H k) (ldN n p x H k) := ⟨w_gldN_ff⟩
instance : Gd (gldN (vb true) false n p x H k) (k undef) := ⟨w_gldN_tf⟩
instance : Gd (gldN (vb false) true n p x H k) (k undef) := ⟨w_gldN_ft⟩
instance : Gd ((gB (vb true) true e1).bind k) (e1.bind k) := ⟨w_gB_tt⟩
instance : Gd ((gB (vb false) false e1).bind k) (e1.bind k) := ⟨w_gB_ff⟩
instance : Gd ((pUn .not (vb c)).bind k) (k (vb (!c))) := ⟨w_bind un_not⟩
instance : Gd (condK (vb true) o1 o2) o1 := ⟨w_cond_t⟩
instance : Gd (condK (vb false) o1 o2) o2 := ⟨w_cond_f⟩
instance : Gd ((gV undef c v).bind k) (k undef) := ⟨w_bind gV_u⟩
instance : Gd ((gB undef c e1).bind k) (k undef) := ⟨w_bind gB_u⟩
instance : Gd (gld undef c p x H k) (k undef) := ⟨w_gld_u⟩
/-- The same, of fewer guards. -/
class Gh (x : OV) (y : outParam OV) : Prop where
  go : ∀ {Q : Value → AH → Prop}, wp y Q → wp x Q
theorem gh {x y : OV} {Q : Value → AH → Prop} [g : Gh x y] (h : wp y Q) : wp x Q := g.go h
instance : Gh ((pPick (vb true) a b).bind k) (k a) := ⟨w_bind (pick_t _ _)⟩
instance : Gh ((pPick (vb false) a b).bind k) (k b) := ⟨w_bind (pick_f _ _)⟩
instance : Gh ((gV (vb true) true v).bind k) (k v) := ⟨w_bind gV_tt⟩
instance : Gh ((gV (vb false) false v).bind k) (k v) := ⟨w_bind gV_ff⟩
instance : Gh ((gV (vb true) false v).bind k) (k undef) := ⟨w_bind gV_tf⟩
instance : Gh ((gV (vb false) true v).bind k) (k undef) := ⟨w_bind gV_ft⟩
instance : Gh ((gB (vb true) false e1).bind k) (k undef) := ⟨w_bind gB_tf⟩
instance : Gh ((gB (vb false) true e1).bind k) (k undef) := ⟨w_bind gB_ft⟩
instance : Gh ((gE (vb true) false H e).bind ke) (ke (undef, H)) := ⟨w_gE_tf⟩
instance : Gh ((gE (vb false) true H e).bind ke) (ke (undef, H)) := ⟨w_gE_ft⟩
instance : Gh ((gE (vb true) true H e).bind ke) (e.bind ke) := ⟨w_gE_tt⟩
instance : Gh ((gE (vb false) false H e).bind ke) (e.bind ke) := ⟨w_gE_ff⟩
instance : Gh ((onK (yv (vb true)) false e1 (some undef)).bind k) (k undef) := ⟨w_onK_tf⟩
instance : Gh ((onK (yv (vb false)) true e1 (some undef)).bind k) (k undef) := ⟨w_onK_ft⟩
instance : Gh ((onK (yv (vb true)) true e1 (some undef)).bind k) (e1.bind k) := ⟨w_onK_tt⟩
instance : Gh ((onK (yv (vb false)) false e1 (some undef)).bind k) (e1.bind k) := ⟨w_onK_ff⟩
end
/-- As many guards less as there are. -/
class Gs (x : OV) (y : outParam OV) : Prop where
  go : ∀ {Q : Value → AH → Prop}, wp y Q → wp x Q
class Gt (x : OV) (y : outParam OV) : Prop where
  go : ∀ {Q : Value → AH → Prop}, wp y Q → wp x Q
instance (priority := low) {x : OV} : Gs x x := ⟨id⟩
instance (priority := low) {x : OV} : Gt x x := ⟨id⟩
instance {x y z : OV} [g : Gd x y] [h : Gs y z] : Gs x z := ⟨fun q => g.go (h.go q)⟩
instance {x y z : OV} [g : Gh x y] [h : Gt y z] : Gt x z := ⟨fun q => g.go (h.go q)⟩
theorem gs {x y : OV} [g : Gs x y] {Q : Value → AH → Prop} (h : wp y Q) : wp x Q := g.go h
theorem gt {x y : OV} [g : Gt x y] {Q : Value → AH → Prop} (h : wp y Q) : wp x Q := g.go h
end Go.Proofs.YthagelbepgcolaaGreatDoor.Gst
