/- Tries: of the reference; the statements on tries, of the abstract run. -/
import Derived.Test.YtbjelopcelompaaGreatDoorQg
import Derived.Test.YtbjelopcelompaaGreatDoorQe
namespace Go.Proofs.YtbjelopcelompaaGreatDoor.Gst
open Go Go.RowKit
set_option linter.unusedSimpArgs false
set_option linter.unusedVariables false
set_option maxHeartbeats 1000000

theorem gV_u {b : Bool} {v : Value} : gV undef b v = some undef := rfl
theorem gB_u {b : Bool} {e : Option Value} : gB undef b e = some undef := rfl
theorem gad_u {R : Type} (b : Bool) (k : Value → Option R) (hk : ∀ x, k x = k undef) : ∀ (p : List Stp) (x : Value), gad undef b p x k = k undef := by
  intro p
  induction p with
  | nil => intro x; exact hk x
  | cons s p ih => intro x; cases s <;> exact ih undef
theorem gld_u {R : Type} {b : Bool} {p : List Stp} {x : Value} {H : AH} (k : Value → Option R) : gld undef b p x H k = k undef := by
  unfold gld
  rw [gad_u b _ (fun x => rfl)]
  rfl
theorem w_gld_u {b : Bool} {p : List Stp} {x : Value} {H : AH} {k : Value → OV} {Q : Value → AH → Prop} (h : wp (k undef) Q) : wp (gld undef b p x H k) Q := by rw [gld_u]; exact h
section
variable {α : Type} {P R : SP} {H : AH} {e n : Nat} {enc : α → List Value} {l m : List α} {s : Value} {Q : Value → AH → Prop}
theorem w_rldFF {k : Value → OV} {i g1 g2 : Nat} {kk : IntKind} {v : Value} (h : Holds P H) [r : Rd P s e enc l] [E : Enc enc e] (hi : i < l.length) (hg : g1 + g2 < e) (hv : (enc l[i])[g1 + g2]? = some v) (hk : wp (k v) Q) : wp (ld [.i e (.int kk (i : Int)), .f g1, .f g2] s H k) Q := by
  have e1 : ld [.i e (.int kk (i : Int)), .f g1, .f g2] s H k = ld [.i e (.int kk (i : Int)), .f (g1 + g2)] s H k := by
    obtain ⟨b, o, ro, row, rfl, h2, h3, h4⟩ := rd_row (s := s) (enc := enc) (l := l) h hi
    unfold ld
    rw [ad_i hi, ad_i hi, ad_f, ad_f, ad_f, Nat.add_assoc]
  rw [e1]
  exact w_rldF h hi hg hv hk
theorem w_rldNF {k : Value → OV} {i g n : Nat} {kk : IntKind} {xs : List Value} (h : Holds P H) [r : Rd P s e enc l] [E : Enc enc e] (hi : i < l.length) (hg : g + n ≤ e) (hv : ((enc l[i]).drop g).take n = xs) (hk : wp (k (.agg xs.toArray)) Q) : wp (ldN n [.i e (.int kk (i : Int)), .f g] s H k) Q := by
  obtain ⟨b, o, ro, row, rfl, h2, h3, h4⟩ := rd_row (s := s) (enc := enc) (l := l) h hi
  unfold ldN
  rw [ad_i hi, ad_f]
  have hm : (i + 1) * e ≤ l.length * e := Nat.mul_le_mul_right _ (by omega)
  rw [Nat.add_mul] at hm
  have : pLdN n (vpo b (o + i * e + g)) H = some (.agg xs.toArray) := by
    simp only [pLdN, pAt, pCells, Option.bind_some, h2]
    rw [if_pos (by omega)]
    congr 3
    rw [← hv, ← flat_at E.len l i hi, ← h4]
    simp only [List.drop_take, List.drop_drop, List.take_take]
    rw [Nat.min_eq_left (by omega)]
  show wp ((pLdN n (vpo b (o + i * e + g)) H).bind k) Q
  rw [this]; exact hk
end

section
variable {P R : SP} {s : Value} {l : List Ev} {Q : Value → AH → Prop}
theorem r27_back [r : Rd P s 5 Ev.cells l] (hl : l.length < 1099511627776) (i : Nat) (hil : i < l.length) (x2 : Value) {H : AH} (h : Holds (P * R) H) :
    ∀ (c : Nat) (t : Bool), c ≤ i → ((t = true ∨ back (l.take c).reverse l[i] = true) → wp (r27_Tries_k6 s x2 (vi i) H) Q) → (t = false → back (l.take c).reverse l[i] = false → Q (vb false) H) →
      wp (r27_Tries_k11 s x2 (vi i) (vb t) (vi ((c : Int) - 1)) H) Q := by
  intro c
  induction c with
  | zero =>
    intro t _ go _
    refine wp_eq (r27_Tries_k11_eq _ _ _ _ _ H) ?_
    refine w_bind (geq_f (by omega)) ?_
    repeat (first
      | with_reducible refine w_bind (pick_t _ _) ?_
      | with_reducible refine w_bind (pick_f _ _) ?_
      | with_reducible refine w_bind gV_tt ?_
      | with_reducible refine w_bind gV_ff ?_
      | with_reducible refine w_bind gV_tf ?_
      | with_reducible refine w_bind gV_ft ?_
      | with_reducible refine w_bind gB_tf ?_
      | with_reducible refine w_bind gB_ft ?_
      | with_reducible refine w_gE_tf ?_
      | with_reducible refine w_gE_ft ?_
      | with_reducible refine w_gE_tt ?_
      | with_reducible refine w_gE_ff ?_
      | with_reducible refine w_onK_tf ?_
      | with_reducible refine w_onK_ft ?_
      | with_reducible refine w_onK_tt ?_
      | with_reducible refine w_onK_ff ?_
      | with_reducible refine w_gld_tt ?_
      | with_reducible refine w_gld_ff ?_
      | with_reducible refine w_gld_tf ?_
      | with_reducible refine w_gld_ft ?_
      | with_reducible refine w_gldN_tt ?_
      | with_reducible refine w_gldN_ff ?_
      | with_reducible refine w_gldN_tf ?_
      | with_reducible refine w_gldN_ft ?_
      | with_reducible refine w_gB_tt ?_
      | with_reducible refine w_gB_ff ?_
      | with_reducible refine w_bind un_not ?_
      | with_reducible refine w_cond_t ?_
      | with_reducible refine w_cond_f ?_
      | with_reducible refine w_bind gV_u ?_
      | with_reducible refine w_bind gB_u ?_
      | with_reducible refine w_gld_u ?_)
    refine wp_eq (r27_Tries_e10_2_eq _ _ _ H) ?_
    exact go (.inr rfl)
  | succ c ih =>
    intro t hci go stop
    have hcl : c < l.length := by omega
    rw [rev_snoc hcl] at go stop
    simp only [back] at go stop
    rw [show ((c + 1 : Nat) : Int) - 1 = (c : Int) from by omega]
    refine wp_eq (r27_Tries_k11_eq _ _ _ _ _ H) ?_
    refine w_bind (geq_t (by omega)) ?_
    repeat (first
      | with_reducible refine w_bind (pick_t _ _) ?_
      | with_reducible refine w_bind (pick_f _ _) ?_
      | with_reducible refine w_bind gV_tt ?_
      | with_reducible refine w_bind gV_ff ?_
      | with_reducible refine w_bind gV_tf ?_
      | with_reducible refine w_bind gV_ft ?_
      | with_reducible refine w_bind gB_tf ?_
      | with_reducible refine w_bind gB_ft ?_
      | with_reducible refine w_gE_tf ?_
      | with_reducible refine w_gE_ft ?_
      | with_reducible refine w_gE_tt ?_
      | with_reducible refine w_gE_ff ?_
      | with_reducible refine w_onK_tf ?_
      | with_reducible refine w_onK_ft ?_
      | with_reducible refine w_onK_tt ?_
      | with_reducible refine w_onK_ff ?_
      | with_reducible refine w_gld_tt ?_
      | with_reducible refine w_gld_ff ?_
      | with_reducible refine w_gld_tf ?_
      | with_reducible refine w_gld_ft ?_
      | with_reducible refine w_gldN_tt ?_
      | with_reducible refine w_gldN_ff ?_
      | with_reducible refine w_gldN_tf ?_
      | with_reducible refine w_gldN_ft ?_
      | with_reducible refine w_gB_tt ?_
      | with_reducible refine w_gB_ff ?_
      | with_reducible refine w_bind un_not ?_
      | with_reducible refine w_cond_t ?_
      | with_reducible refine w_cond_f ?_
      | with_reducible refine w_bind gV_u ?_
      | with_reducible refine w_bind gB_u ?_
      | with_reducible refine w_gld_u ?_)
    refine wp_eq (r27_Tries_k12_eq _ _ _ _ _ H) ?_
    refine w_rldNF (l := l) h hcl (by omega) rfl ?_
    refine w_rldNF (l := l) h hil (by omega) rfl ?_
    refine w_bind (neCells3 l[c].loc l[i].loc) ?_
    by_cases hloc : l[c].loc = l[i].loc
    · rw [if_pos hloc] at go stop
      rw [beq_iff_eq.2 hloc, Bool.not_true]
      repeat (first
        | with_reducible refine w_bind (pick_t _ _) ?_
        | with_reducible refine w_bind (pick_f _ _) ?_
        | with_reducible refine w_bind gV_tt ?_
        | with_reducible refine w_bind gV_ff ?_
        | with_reducible refine w_bind gV_tf ?_
        | with_reducible refine w_bind gV_ft ?_
        | with_reducible refine w_bind gB_tf ?_
        | with_reducible refine w_bind gB_ft ?_
        | with_reducible refine w_gE_tf ?_
        | with_reducible refine w_gE_ft ?_
        | with_reducible refine w_gE_tt ?_
        | with_reducible refine w_gE_ff ?_
        | with_reducible refine w_onK_tf ?_
        | with_reducible refine w_onK_ft ?_
        | with_reducible refine w_onK_tt ?_
        | with_reducible refine w_onK_ff ?_
        | with_reducible refine w_gld_tt ?_
        | with_reducible refine w_gld_ff ?_
        | with_reducible refine w_gld_tf ?_
        | with_reducible refine w_gld_ft ?_
        | with_reducible refine w_gldN_tt ?_
        | with_reducible refine w_gldN_ff ?_
        | with_reducible refine w_gldN_tf ?_
        | with_reducible refine w_gldN_ft ?_
        | with_reducible refine w_gB_tt ?_
        | with_reducible refine w_gB_ff ?_
        | with_reducible refine w_bind un_not ?_
        | with_reducible refine w_cond_t ?_
        | with_reducible refine w_cond_f ?_
        | with_reducible refine w_bind gV_u ?_
        | with_reducible refine w_bind gB_u ?_
        | with_reducible refine w_gld_u ?_)
      cases t with
      | true =>
        repeat (first
          | with_reducible refine w_bind (pick_t _ _) ?_
          | with_reducible refine w_bind (pick_f _ _) ?_
          | with_reducible refine w_bind gV_tt ?_
          | with_reducible refine w_bind gV_ff ?_
          | with_reducible refine w_bind gV_tf ?_
          | with_reducible refine w_bind gV_ft ?_
          | with_reducible refine w_bind gB_tf ?_
          | with_reducible refine w_bind gB_ft ?_
          | with_reducible refine w_gE_tf ?_
          | with_reducible refine w_gE_ft ?_
          | with_reducible refine w_gE_tt ?_
          | with_reducible refine w_gE_ff ?_
          | with_reducible refine w_onK_tf ?_
          | with_reducible refine w_onK_ft ?_
          | with_reducible refine w_onK_tt ?_
          | with_reducible refine w_onK_ff ?_
          | with_reducible refine w_gld_tt ?_
          | with_reducible refine w_gld_ff ?_
          | with_reducible refine w_gld_tf ?_
          | with_reducible refine w_gld_ft ?_
          | with_reducible refine w_gldN_tt ?_
          | with_reducible refine w_gldN_ff ?_
          | with_reducible refine w_gldN_tf ?_
          | with_reducible refine w_gldN_ft ?_
          | with_reducible refine w_gB_tt ?_
          | with_reducible refine w_gB_ff ?_
          | with_reducible refine w_bind un_not ?_
          | with_reducible refine w_cond_t ?_
          | with_reducible refine w_cond_f ?_
          | with_reducible refine w_bind gV_u ?_
          | with_reducible refine w_bind gB_u ?_
          | with_reducible refine w_gld_u ?_)
        refine w_rldF (l := l) h hcl (by omega) rfl ?_
        by_cases hk1 : l[c].kind = 1
        · refine w_bind (eql_t hk1) ?_
          repeat (first
            | with_reducible refine w_bind (pick_t _ _) ?_
            | with_reducible refine w_bind (pick_f _ _) ?_
            | with_reducible refine w_bind gV_tt ?_
            | with_reducible refine w_bind gV_ff ?_
            | with_reducible refine w_bind gV_tf ?_
            | with_reducible refine w_bind gV_ft ?_
            | with_reducible refine w_bind gB_tf ?_
            | with_reducible refine w_bind gB_ft ?_
            | with_reducible refine w_gE_tf ?_
            | with_reducible refine w_gE_ft ?_
            | with_reducible refine w_gE_tt ?_
            | with_reducible refine w_gE_ff ?_
            | with_reducible refine w_onK_tf ?_
            | with_reducible refine w_onK_ft ?_
            | with_reducible refine w_onK_tt ?_
            | with_reducible refine w_onK_ff ?_
            | with_reducible refine w_gld_tt ?_
            | with_reducible refine w_gld_ff ?_
            | with_reducible refine w_gld_tf ?_
            | with_reducible refine w_gld_ft ?_
            | with_reducible refine w_gldN_tt ?_
            | with_reducible refine w_gldN_ff ?_
            | with_reducible refine w_gldN_tf ?_
            | with_reducible refine w_gldN_ft ?_
            | with_reducible refine w_gB_tt ?_
            | with_reducible refine w_gB_ff ?_
            | with_reducible refine w_bind un_not ?_
            | with_reducible refine w_cond_t ?_
            | with_reducible refine w_cond_f ?_
            | with_reducible refine w_bind gV_u ?_
            | with_reducible refine w_bind gB_u ?_
            | with_reducible refine w_gld_u ?_)
          refine w_rldF (l := l) h hcl (by omega) rfl ?_
          repeat (first
            | with_reducible refine w_bind (pick_t _ _) ?_
            | with_reducible refine w_bind (pick_f _ _) ?_
            | with_reducible refine w_bind gV_tt ?_
            | with_reducible refine w_bind gV_ff ?_
            | with_reducible refine w_bind gV_tf ?_
            | with_reducible refine w_bind gV_ft ?_
            | with_reducible refine w_bind gB_tf ?_
            | with_reducible refine w_bind gB_ft ?_
            | with_reducible refine w_gE_tf ?_
            | with_reducible refine w_gE_ft ?_
            | with_reducible refine w_gE_tt ?_
            | with_reducible refine w_gE_ff ?_
            | with_reducible refine w_onK_tf ?_
            | with_reducible refine w_onK_ft ?_
            | with_reducible refine w_onK_tt ?_
            | with_reducible refine w_onK_ff ?_
            | with_reducible refine w_gld_tt ?_
            | with_reducible refine w_gld_ff ?_
            | with_reducible refine w_gld_tf ?_
            | with_reducible refine w_gld_ft ?_
            | with_reducible refine w_gldN_tt ?_
            | with_reducible refine w_gldN_ff ?_
            | with_reducible refine w_gldN_tf ?_
            | with_reducible refine w_gldN_ft ?_
            | with_reducible refine w_gB_tt ?_
            | with_reducible refine w_gB_ff ?_
            | with_reducible refine w_bind un_not ?_
            | with_reducible refine w_cond_t ?_
            | with_reducible refine w_cond_f ?_
            | with_reducible refine w_bind gV_u ?_
            | with_reducible refine w_bind gB_u ?_
            | with_reducible refine w_gld_u ?_)
          refine w_rldF (l := l) h hil (by omega) rfl ?_
          repeat (first
            | with_reducible refine w_bind (pick_t _ _) ?_
            | with_reducible refine w_bind (pick_f _ _) ?_
            | with_reducible refine w_bind gV_tt ?_
            | with_reducible refine w_bind gV_ff ?_
            | with_reducible refine w_bind gV_tf ?_
            | with_reducible refine w_bind gV_ft ?_
            | with_reducible refine w_bind gB_tf ?_
            | with_reducible refine w_bind gB_ft ?_
            | with_reducible refine w_gE_tf ?_
            | with_reducible refine w_gE_ft ?_
            | with_reducible refine w_gE_tt ?_
            | with_reducible refine w_gE_ff ?_
            | with_reducible refine w_onK_tf ?_
            | with_reducible refine w_onK_ft ?_
            | with_reducible refine w_onK_tt ?_
            | with_reducible refine w_onK_ff ?_
            | with_reducible refine w_gld_tt ?_
            | with_reducible refine w_gld_ff ?_
            | with_reducible refine w_gld_tf ?_
            | with_reducible refine w_gld_ft ?_
            | with_reducible refine w_gldN_tt ?_
            | with_reducible refine w_gldN_ff ?_
            | with_reducible refine w_gldN_tf ?_
            | with_reducible refine w_gldN_ft ?_
            | with_reducible refine w_gB_tt ?_
            | with_reducible refine w_gB_ff ?_
            | with_reducible refine w_bind un_not ?_
            | with_reducible refine w_cond_t ?_
            | with_reducible refine w_cond_f ?_
            | with_reducible refine w_bind gV_u ?_
            | with_reducible refine w_bind gB_u ?_
            | with_reducible refine w_gld_u ?_)
          by_cases hw1 : l[c].who = l[i].who
          · refine w_bind (eql_t hw1) ?_
            repeat (first
              | with_reducible refine w_bind (pick_t _ _) ?_
              | with_reducible refine w_bind (pick_f _ _) ?_
              | with_reducible refine w_bind gV_tt ?_
              | with_reducible refine w_bind gV_ff ?_
              | with_reducible refine w_bind gV_tf ?_
              | with_reducible refine w_bind gV_ft ?_
              | with_reducible refine w_bind gB_tf ?_
              | with_reducible refine w_bind gB_ft ?_
              | with_reducible refine w_gE_tf ?_
              | with_reducible refine w_gE_ft ?_
              | with_reducible refine w_gE_tt ?_
              | with_reducible refine w_gE_ff ?_
              | with_reducible refine w_onK_tf ?_
              | with_reducible refine w_onK_ft ?_
              | with_reducible refine w_onK_tt ?_
              | with_reducible refine w_onK_ff ?_
              | with_reducible refine w_gld_tt ?_
              | with_reducible refine w_gld_ff ?_
              | with_reducible refine w_gld_tf ?_
              | with_reducible refine w_gld_ft ?_
              | with_reducible refine w_gldN_tt ?_
              | with_reducible refine w_gldN_ff ?_
              | with_reducible refine w_gldN_tf ?_
              | with_reducible refine w_gldN_ft ?_
              | with_reducible refine w_gB_tt ?_
              | with_reducible refine w_gB_ff ?_
              | with_reducible refine w_bind un_not ?_
              | with_reducible refine w_cond_t ?_
              | with_reducible refine w_cond_f ?_
              | with_reducible refine w_bind gV_u ?_
              | with_reducible refine w_bind gB_u ?_
              | with_reducible refine w_gld_u ?_)
            refine wp_eq (r27_Tries_e15_2_eq _ _ _ _ _ H) ?_
            refine wp_eq (r27_Tries_e10_2_eq _ _ _ H) ?_
            exact go (.inl rfl)
          · refine w_bind (eql_f hw1) ?_
            repeat (first
              | with_reducible refine w_bind (pick_t _ _) ?_
              | with_reducible refine w_bind (pick_f _ _) ?_
              | with_reducible refine w_bind gV_tt ?_
              | with_reducible refine w_bind gV_ff ?_
              | with_reducible refine w_bind gV_tf ?_
              | with_reducible refine w_bind gV_ft ?_
              | with_reducible refine w_bind gB_tf ?_
              | with_reducible refine w_bind gB_ft ?_
              | with_reducible refine w_gE_tf ?_
              | with_reducible refine w_gE_ft ?_
              | with_reducible refine w_gE_tt ?_
              | with_reducible refine w_gE_ff ?_
              | with_reducible refine w_onK_tf ?_
              | with_reducible refine w_onK_ft ?_
              | with_reducible refine w_onK_tt ?_
              | with_reducible refine w_onK_ff ?_
              | with_reducible refine w_gld_tt ?_
              | with_reducible refine w_gld_ff ?_
              | with_reducible refine w_gld_tf ?_
              | with_reducible refine w_gld_ft ?_
              | with_reducible refine w_gldN_tt ?_
              | with_reducible refine w_gldN_ff ?_
              | with_reducible refine w_gldN_tf ?_
              | with_reducible refine w_gldN_ft ?_
              | with_reducible refine w_gB_tt ?_
              | with_reducible refine w_gB_ff ?_
              | with_reducible refine w_bind un_not ?_
              | with_reducible refine w_cond_t ?_
              | with_reducible refine w_cond_f ?_
              | with_reducible refine w_bind gV_u ?_
              | with_reducible refine w_bind gB_u ?_
              | with_reducible refine w_gld_u ?_)
            refine wp_eq (r27_Tries_k13_eq _ _ _ _ _ H) ?_
            refine w_bind (bin_sub_i (by omega) (by omega)) ?_
            exact ih true (by omega) (fun _ => go (.inl rfl)) (fun h => (by cases h))
        · refine w_bind (eql_f hk1) ?_
          repeat (first
            | with_reducible refine w_bind (pick_t _ _) ?_
            | with_reducible refine w_bind (pick_f _ _) ?_
            | with_reducible refine w_bind gV_tt ?_
            | with_reducible refine w_bind gV_ff ?_
            | with_reducible refine w_bind gV_tf ?_
            | with_reducible refine w_bind gV_ft ?_
            | with_reducible refine w_bind gB_tf ?_
            | with_reducible refine w_bind gB_ft ?_
            | with_reducible refine w_gE_tf ?_
            | with_reducible refine w_gE_ft ?_
            | with_reducible refine w_gE_tt ?_
            | with_reducible refine w_gE_ff ?_
            | with_reducible refine w_onK_tf ?_
            | with_reducible refine w_onK_ft ?_
            | with_reducible refine w_onK_tt ?_
            | with_reducible refine w_onK_ff ?_
            | with_reducible refine w_gld_tt ?_
            | with_reducible refine w_gld_ff ?_
            | with_reducible refine w_gld_tf ?_
            | with_reducible refine w_gld_ft ?_
            | with_reducible refine w_gldN_tt ?_
            | with_reducible refine w_gldN_ff ?_
            | with_reducible refine w_gldN_tf ?_
            | with_reducible refine w_gldN_ft ?_
            | with_reducible refine w_gB_tt ?_
            | with_reducible refine w_gB_ff ?_
            | with_reducible refine w_bind un_not ?_
            | with_reducible refine w_cond_t ?_
            | with_reducible refine w_cond_f ?_
            | with_reducible refine w_bind gV_u ?_
            | with_reducible refine w_bind gB_u ?_
            | with_reducible refine w_gld_u ?_)
          refine wp_eq (r27_Tries_k13_eq _ _ _ _ _ H) ?_
          refine w_bind (bin_sub_i (by omega) (by omega)) ?_
          exact ih true (by omega) (fun _ => go (.inl rfl)) (fun h => (by cases h))
      | false =>
        by_cases hk3 : l[c].kind = 3
        · by_cases hw3 : l[c].who = l[i].who
          · rw [if_neg (fun h => h.2 hw3)] at go stop
            repeat (first
              | with_reducible refine w_bind (pick_t _ _) ?_
              | with_reducible refine w_bind (pick_f _ _) ?_
              | with_reducible refine w_bind gV_tt ?_
              | with_reducible refine w_bind gV_ff ?_
              | with_reducible refine w_bind gV_tf ?_
              | with_reducible refine w_bind gV_ft ?_
              | with_reducible refine w_bind gB_tf ?_
              | with_reducible refine w_bind gB_ft ?_
              | with_reducible refine w_gE_tf ?_
              | with_reducible refine w_gE_ft ?_
              | with_reducible refine w_gE_tt ?_
              | with_reducible refine w_gE_ff ?_
              | with_reducible refine w_onK_tf ?_
              | with_reducible refine w_onK_ft ?_
              | with_reducible refine w_onK_tt ?_
              | with_reducible refine w_onK_ff ?_
              | with_reducible refine w_gld_tt ?_
              | with_reducible refine w_gld_ff ?_
              | with_reducible refine w_gld_tf ?_
              | with_reducible refine w_gld_ft ?_
              | with_reducible refine w_gldN_tt ?_
              | with_reducible refine w_gldN_ff ?_
              | with_reducible refine w_gldN_tf ?_
              | with_reducible refine w_gldN_ft ?_
              | with_reducible refine w_gB_tt ?_
              | with_reducible refine w_gB_ff ?_
              | with_reducible refine w_bind un_not ?_
              | with_reducible refine w_cond_t ?_
              | with_reducible refine w_cond_f ?_
              | with_reducible refine w_bind gV_u ?_
              | with_reducible refine w_bind gB_u ?_
              | with_reducible refine w_gld_u ?_)
            refine w_rldF (l := l) h hcl (by omega) rfl ?_
            repeat (first
              | with_reducible refine w_bind (pick_t _ _) ?_
              | with_reducible refine w_bind (pick_f _ _) ?_
              | with_reducible refine w_bind gV_tt ?_
              | with_reducible refine w_bind gV_ff ?_
              | with_reducible refine w_bind gV_tf ?_
              | with_reducible refine w_bind gV_ft ?_
              | with_reducible refine w_bind gB_tf ?_
              | with_reducible refine w_bind gB_ft ?_
              | with_reducible refine w_gE_tf ?_
              | with_reducible refine w_gE_ft ?_
              | with_reducible refine w_gE_tt ?_
              | with_reducible refine w_gE_ff ?_
              | with_reducible refine w_onK_tf ?_
              | with_reducible refine w_onK_ft ?_
              | with_reducible refine w_onK_tt ?_
              | with_reducible refine w_onK_ff ?_
              | with_reducible refine w_gld_tt ?_
              | with_reducible refine w_gld_ff ?_
              | with_reducible refine w_gld_tf ?_
              | with_reducible refine w_gld_ft ?_
              | with_reducible refine w_gldN_tt ?_
              | with_reducible refine w_gldN_ff ?_
              | with_reducible refine w_gldN_tf ?_
              | with_reducible refine w_gldN_ft ?_
              | with_reducible refine w_gB_tt ?_
              | with_reducible refine w_gB_ff ?_
              | with_reducible refine w_bind un_not ?_
              | with_reducible refine w_cond_t ?_
              | with_reducible refine w_cond_f ?_
              | with_reducible refine w_bind gV_u ?_
              | with_reducible refine w_bind gB_u ?_
              | with_reducible refine w_gld_u ?_)
            refine w_bind (eql_t hk3) ?_
            repeat (first
              | with_reducible refine w_bind (pick_t _ _) ?_
              | with_reducible refine w_bind (pick_f _ _) ?_
              | with_reducible refine w_bind gV_tt ?_
              | with_reducible refine w_bind gV_ff ?_
              | with_reducible refine w_bind gV_tf ?_
              | with_reducible refine w_bind gV_ft ?_
              | with_reducible refine w_bind gB_tf ?_
              | with_reducible refine w_bind gB_ft ?_
              | with_reducible refine w_gE_tf ?_
              | with_reducible refine w_gE_ft ?_
              | with_reducible refine w_gE_tt ?_
              | with_reducible refine w_gE_ff ?_
              | with_reducible refine w_onK_tf ?_
              | with_reducible refine w_onK_ft ?_
              | with_reducible refine w_onK_tt ?_
              | with_reducible refine w_onK_ff ?_
              | with_reducible refine w_gld_tt ?_
              | with_reducible refine w_gld_ff ?_
              | with_reducible refine w_gld_tf ?_
              | with_reducible refine w_gld_ft ?_
              | with_reducible refine w_gldN_tt ?_
              | with_reducible refine w_gldN_ff ?_
              | with_reducible refine w_gldN_tf ?_
              | with_reducible refine w_gldN_ft ?_
              | with_reducible refine w_gB_tt ?_
              | with_reducible refine w_gB_ff ?_
              | with_reducible refine w_bind un_not ?_
              | with_reducible refine w_cond_t ?_
              | with_reducible refine w_cond_f ?_
              | with_reducible refine w_bind gV_u ?_
              | with_reducible refine w_bind gB_u ?_
              | with_reducible refine w_gld_u ?_)
            refine w_rldF (l := l) h hcl (by omega) rfl ?_
            repeat (first
              | with_reducible refine w_bind (pick_t _ _) ?_
              | with_reducible refine w_bind (pick_f _ _) ?_
              | with_reducible refine w_bind gV_tt ?_
              | with_reducible refine w_bind gV_ff ?_
              | with_reducible refine w_bind gV_tf ?_
              | with_reducible refine w_bind gV_ft ?_
              | with_reducible refine w_bind gB_tf ?_
              | with_reducible refine w_bind gB_ft ?_
              | with_reducible refine w_gE_tf ?_
              | with_reducible refine w_gE_ft ?_
              | with_reducible refine w_gE_tt ?_
              | with_reducible refine w_gE_ff ?_
              | with_reducible refine w_onK_tf ?_
              | with_reducible refine w_onK_ft ?_
              | with_reducible refine w_onK_tt ?_
              | with_reducible refine w_onK_ff ?_
              | with_reducible refine w_gld_tt ?_
              | with_reducible refine w_gld_ff ?_
              | with_reducible refine w_gld_tf ?_
              | with_reducible refine w_gld_ft ?_
              | with_reducible refine w_gldN_tt ?_
              | with_reducible refine w_gldN_ff ?_
              | with_reducible refine w_gldN_tf ?_
              | with_reducible refine w_gldN_ft ?_
              | with_reducible refine w_gB_tt ?_
              | with_reducible refine w_gB_ff ?_
              | with_reducible refine w_bind un_not ?_
              | with_reducible refine w_cond_t ?_
              | with_reducible refine w_cond_f ?_
              | with_reducible refine w_bind gV_u ?_
              | with_reducible refine w_bind gB_u ?_
              | with_reducible refine w_gld_u ?_)
            refine w_rldF (l := l) h hil (by omega) rfl ?_
            repeat (first
              | with_reducible refine w_bind (pick_t _ _) ?_
              | with_reducible refine w_bind (pick_f _ _) ?_
              | with_reducible refine w_bind gV_tt ?_
              | with_reducible refine w_bind gV_ff ?_
              | with_reducible refine w_bind gV_tf ?_
              | with_reducible refine w_bind gV_ft ?_
              | with_reducible refine w_bind gB_tf ?_
              | with_reducible refine w_bind gB_ft ?_
              | with_reducible refine w_gE_tf ?_
              | with_reducible refine w_gE_ft ?_
              | with_reducible refine w_gE_tt ?_
              | with_reducible refine w_gE_ff ?_
              | with_reducible refine w_onK_tf ?_
              | with_reducible refine w_onK_ft ?_
              | with_reducible refine w_onK_tt ?_
              | with_reducible refine w_onK_ff ?_
              | with_reducible refine w_gld_tt ?_
              | with_reducible refine w_gld_ff ?_
              | with_reducible refine w_gld_tf ?_
              | with_reducible refine w_gld_ft ?_
              | with_reducible refine w_gldN_tt ?_
              | with_reducible refine w_gldN_ff ?_
              | with_reducible refine w_gldN_tf ?_
              | with_reducible refine w_gldN_ft ?_
              | with_reducible refine w_gB_tt ?_
              | with_reducible refine w_gB_ff ?_
              | with_reducible refine w_bind un_not ?_
              | with_reducible refine w_cond_t ?_
              | with_reducible refine w_cond_f ?_
              | with_reducible refine w_bind gV_u ?_
              | with_reducible refine w_bind gB_u ?_
              | with_reducible refine w_gld_u ?_)
            refine w_bind (neq_f hw3) ?_
            repeat (first
              | with_reducible refine w_bind (pick_t _ _) ?_
              | with_reducible refine w_bind (pick_f _ _) ?_
              | with_reducible refine w_bind gV_tt ?_
              | with_reducible refine w_bind gV_ff ?_
              | with_reducible refine w_bind gV_tf ?_
              | with_reducible refine w_bind gV_ft ?_
              | with_reducible refine w_bind gB_tf ?_
              | with_reducible refine w_bind gB_ft ?_
              | with_reducible refine w_gE_tf ?_
              | with_reducible refine w_gE_ft ?_
              | with_reducible refine w_gE_tt ?_
              | with_reducible refine w_gE_ff ?_
              | with_reducible refine w_onK_tf ?_
              | with_reducible refine w_onK_ft ?_
              | with_reducible refine w_onK_tt ?_
              | with_reducible refine w_onK_ff ?_
              | with_reducible refine w_gld_tt ?_
              | with_reducible refine w_gld_ff ?_
              | with_reducible refine w_gld_tf ?_
              | with_reducible refine w_gld_ft ?_
              | with_reducible refine w_gldN_tt ?_
              | with_reducible refine w_gldN_ff ?_
              | with_reducible refine w_gldN_tf ?_
              | with_reducible refine w_gldN_ft ?_
              | with_reducible refine w_gB_tt ?_
              | with_reducible refine w_gB_ff ?_
              | with_reducible refine w_bind un_not ?_
              | with_reducible refine w_cond_t ?_
              | with_reducible refine w_cond_f ?_
              | with_reducible refine w_bind gV_u ?_
              | with_reducible refine w_bind gB_u ?_
              | with_reducible refine w_gld_u ?_)
            rw [if_neg (fun h => absurd (h.1.symm.trans hk3) (by omega))] at go stop
            refine w_rldF (l := l) h hcl (by omega) rfl ?_
            by_cases hk1 : l[c].kind = 1
            · refine w_bind (eql_t hk1) ?_
              repeat (first
                | with_reducible refine w_bind (pick_t _ _) ?_
                | with_reducible refine w_bind (pick_f _ _) ?_
                | with_reducible refine w_bind gV_tt ?_
                | with_reducible refine w_bind gV_ff ?_
                | with_reducible refine w_bind gV_tf ?_
                | with_reducible refine w_bind gV_ft ?_
                | with_reducible refine w_bind gB_tf ?_
                | with_reducible refine w_bind gB_ft ?_
                | with_reducible refine w_gE_tf ?_
                | with_reducible refine w_gE_ft ?_
                | with_reducible refine w_gE_tt ?_
                | with_reducible refine w_gE_ff ?_
                | with_reducible refine w_onK_tf ?_
                | with_reducible refine w_onK_ft ?_
                | with_reducible refine w_onK_tt ?_
                | with_reducible refine w_onK_ff ?_
                | with_reducible refine w_gld_tt ?_
                | with_reducible refine w_gld_ff ?_
                | with_reducible refine w_gld_tf ?_
                | with_reducible refine w_gld_ft ?_
                | with_reducible refine w_gldN_tt ?_
                | with_reducible refine w_gldN_ff ?_
                | with_reducible refine w_gldN_tf ?_
                | with_reducible refine w_gldN_ft ?_
                | with_reducible refine w_gB_tt ?_
                | with_reducible refine w_gB_ff ?_
                | with_reducible refine w_bind un_not ?_
                | with_reducible refine w_cond_t ?_
                | with_reducible refine w_cond_f ?_
                | with_reducible refine w_bind gV_u ?_
                | with_reducible refine w_bind gB_u ?_
                | with_reducible refine w_gld_u ?_)
              refine w_rldF (l := l) h hcl (by omega) rfl ?_
              repeat (first
                | with_reducible refine w_bind (pick_t _ _) ?_
                | with_reducible refine w_bind (pick_f _ _) ?_
                | with_reducible refine w_bind gV_tt ?_
                | with_reducible refine w_bind gV_ff ?_
                | with_reducible refine w_bind gV_tf ?_
                | with_reducible refine w_bind gV_ft ?_
                | with_reducible refine w_bind gB_tf ?_
                | with_reducible refine w_bind gB_ft ?_
                | with_reducible refine w_gE_tf ?_
                | with_reducible refine w_gE_ft ?_
                | with_reducible refine w_gE_tt ?_
                | with_reducible refine w_gE_ff ?_
                | with_reducible refine w_onK_tf ?_
                | with_reducible refine w_onK_ft ?_
                | with_reducible refine w_onK_tt ?_
                | with_reducible refine w_onK_ff ?_
                | with_reducible refine w_gld_tt ?_
                | with_reducible refine w_gld_ff ?_
                | with_reducible refine w_gld_tf ?_
                | with_reducible refine w_gld_ft ?_
                | with_reducible refine w_gldN_tt ?_
                | with_reducible refine w_gldN_ff ?_
                | with_reducible refine w_gldN_tf ?_
                | with_reducible refine w_gldN_ft ?_
                | with_reducible refine w_gB_tt ?_
                | with_reducible refine w_gB_ff ?_
                | with_reducible refine w_bind un_not ?_
                | with_reducible refine w_cond_t ?_
                | with_reducible refine w_cond_f ?_
                | with_reducible refine w_bind gV_u ?_
                | with_reducible refine w_bind gB_u ?_
                | with_reducible refine w_gld_u ?_)
              refine w_rldF (l := l) h hil (by omega) rfl ?_
              repeat (first
                | with_reducible refine w_bind (pick_t _ _) ?_
                | with_reducible refine w_bind (pick_f _ _) ?_
                | with_reducible refine w_bind gV_tt ?_
                | with_reducible refine w_bind gV_ff ?_
                | with_reducible refine w_bind gV_tf ?_
                | with_reducible refine w_bind gV_ft ?_
                | with_reducible refine w_bind gB_tf ?_
                | with_reducible refine w_bind gB_ft ?_
                | with_reducible refine w_gE_tf ?_
                | with_reducible refine w_gE_ft ?_
                | with_reducible refine w_gE_tt ?_
                | with_reducible refine w_gE_ff ?_
                | with_reducible refine w_onK_tf ?_
                | with_reducible refine w_onK_ft ?_
                | with_reducible refine w_onK_tt ?_
                | with_reducible refine w_onK_ff ?_
                | with_reducible refine w_gld_tt ?_
                | with_reducible refine w_gld_ff ?_
                | with_reducible refine w_gld_tf ?_
                | with_reducible refine w_gld_ft ?_
                | with_reducible refine w_gldN_tt ?_
                | with_reducible refine w_gldN_ff ?_
                | with_reducible refine w_gldN_tf ?_
                | with_reducible refine w_gldN_ft ?_
                | with_reducible refine w_gB_tt ?_
                | with_reducible refine w_gB_ff ?_
                | with_reducible refine w_bind un_not ?_
                | with_reducible refine w_cond_t ?_
                | with_reducible refine w_cond_f ?_
                | with_reducible refine w_bind gV_u ?_
                | with_reducible refine w_bind gB_u ?_
                | with_reducible refine w_gld_u ?_)
              by_cases hw1 : l[c].who = l[i].who
              · refine w_bind (eql_t hw1) ?_
                repeat (first
                  | with_reducible refine w_bind (pick_t _ _) ?_
                  | with_reducible refine w_bind (pick_f _ _) ?_
                  | with_reducible refine w_bind gV_tt ?_
                  | with_reducible refine w_bind gV_ff ?_
                  | with_reducible refine w_bind gV_tf ?_
                  | with_reducible refine w_bind gV_ft ?_
                  | with_reducible refine w_bind gB_tf ?_
                  | with_reducible refine w_bind gB_ft ?_
                  | with_reducible refine w_gE_tf ?_
                  | with_reducible refine w_gE_ft ?_
                  | with_reducible refine w_gE_tt ?_
                  | with_reducible refine w_gE_ff ?_
                  | with_reducible refine w_onK_tf ?_
                  | with_reducible refine w_onK_ft ?_
                  | with_reducible refine w_onK_tt ?_
                  | with_reducible refine w_onK_ff ?_
                  | with_reducible refine w_gld_tt ?_
                  | with_reducible refine w_gld_ff ?_
                  | with_reducible refine w_gld_tf ?_
                  | with_reducible refine w_gld_ft ?_
                  | with_reducible refine w_gldN_tt ?_
                  | with_reducible refine w_gldN_ff ?_
                  | with_reducible refine w_gldN_tf ?_
                  | with_reducible refine w_gldN_ft ?_
                  | with_reducible refine w_gB_tt ?_
                  | with_reducible refine w_gB_ff ?_
                  | with_reducible refine w_bind un_not ?_
                  | with_reducible refine w_cond_t ?_
                  | with_reducible refine w_cond_f ?_
                  | with_reducible refine w_bind gV_u ?_
                  | with_reducible refine w_bind gB_u ?_
                  | with_reducible refine w_gld_u ?_)
                exact w_ret (absurd (hk1.symm.trans hk3) (by omega))
              · refine w_bind (eql_f hw1) ?_
                repeat (first
                  | with_reducible refine w_bind (pick_t _ _) ?_
                  | with_reducible refine w_bind (pick_f _ _) ?_
                  | with_reducible refine w_bind gV_tt ?_
                  | with_reducible refine w_bind gV_ff ?_
                  | with_reducible refine w_bind gV_tf ?_
                  | with_reducible refine w_bind gV_ft ?_
                  | with_reducible refine w_bind gB_tf ?_
                  | with_reducible refine w_bind gB_ft ?_
                  | with_reducible refine w_gE_tf ?_
                  | with_reducible refine w_gE_ft ?_
                  | with_reducible refine w_gE_tt ?_
                  | with_reducible refine w_gE_ff ?_
                  | with_reducible refine w_onK_tf ?_
                  | with_reducible refine w_onK_ft ?_
                  | with_reducible refine w_onK_tt ?_
                  | with_reducible refine w_onK_ff ?_
                  | with_reducible refine w_gld_tt ?_
                  | with_reducible refine w_gld_ff ?_
                  | with_reducible refine w_gld_tf ?_
                  | with_reducible refine w_gld_ft ?_
                  | with_reducible refine w_gldN_tt ?_
                  | with_reducible refine w_gldN_ff ?_
                  | with_reducible refine w_gldN_tf ?_
                  | with_reducible refine w_gldN_ft ?_
                  | with_reducible refine w_gB_tt ?_
                  | with_reducible refine w_gB_ff ?_
                  | with_reducible refine w_bind un_not ?_
                  | with_reducible refine w_cond_t ?_
                  | with_reducible refine w_cond_f ?_
                  | with_reducible refine w_bind gV_u ?_
                  | with_reducible refine w_bind gB_u ?_
                  | with_reducible refine w_gld_u ?_)
                refine wp_eq (r27_Tries_k13_eq _ _ _ _ _ H) ?_
                refine w_bind (bin_sub_i (by omega) (by omega)) ?_
                exact ih false (by omega) go stop
            · refine w_bind (eql_f hk1) ?_
              repeat (first
                | with_reducible refine w_bind (pick_t _ _) ?_
                | with_reducible refine w_bind (pick_f _ _) ?_
                | with_reducible refine w_bind gV_tt ?_
                | with_reducible refine w_bind gV_ff ?_
                | with_reducible refine w_bind gV_tf ?_
                | with_reducible refine w_bind gV_ft ?_
                | with_reducible refine w_bind gB_tf ?_
                | with_reducible refine w_bind gB_ft ?_
                | with_reducible refine w_gE_tf ?_
                | with_reducible refine w_gE_ft ?_
                | with_reducible refine w_gE_tt ?_
                | with_reducible refine w_gE_ff ?_
                | with_reducible refine w_onK_tf ?_
                | with_reducible refine w_onK_ft ?_
                | with_reducible refine w_onK_tt ?_
                | with_reducible refine w_onK_ff ?_
                | with_reducible refine w_gld_tt ?_
                | with_reducible refine w_gld_ff ?_
                | with_reducible refine w_gld_tf ?_
                | with_reducible refine w_gld_ft ?_
                | with_reducible refine w_gldN_tt ?_
                | with_reducible refine w_gldN_ff ?_
                | with_reducible refine w_gldN_tf ?_
                | with_reducible refine w_gldN_ft ?_
                | with_reducible refine w_gB_tt ?_
                | with_reducible refine w_gB_ff ?_
                | with_reducible refine w_bind un_not ?_
                | with_reducible refine w_cond_t ?_
                | with_reducible refine w_cond_f ?_
                | with_reducible refine w_bind gV_u ?_
                | with_reducible refine w_bind gB_u ?_
                | with_reducible refine w_gld_u ?_)
              refine wp_eq (r27_Tries_k13_eq _ _ _ _ _ H) ?_
              refine w_bind (bin_sub_i (by omega) (by omega)) ?_
              exact ih false (by omega) go stop
          · rw [if_pos ⟨hk3, hw3⟩] at go stop
            repeat (first
              | with_reducible refine w_bind (pick_t _ _) ?_
              | with_reducible refine w_bind (pick_f _ _) ?_
              | with_reducible refine w_bind gV_tt ?_
              | with_reducible refine w_bind gV_ff ?_
              | with_reducible refine w_bind gV_tf ?_
              | with_reducible refine w_bind gV_ft ?_
              | with_reducible refine w_bind gB_tf ?_
              | with_reducible refine w_bind gB_ft ?_
              | with_reducible refine w_gE_tf ?_
              | with_reducible refine w_gE_ft ?_
              | with_reducible refine w_gE_tt ?_
              | with_reducible refine w_gE_ff ?_
              | with_reducible refine w_onK_tf ?_
              | with_reducible refine w_onK_ft ?_
              | with_reducible refine w_onK_tt ?_
              | with_reducible refine w_onK_ff ?_
              | with_reducible refine w_gld_tt ?_
              | with_reducible refine w_gld_ff ?_
              | with_reducible refine w_gld_tf ?_
              | with_reducible refine w_gld_ft ?_
              | with_reducible refine w_gldN_tt ?_
              | with_reducible refine w_gldN_ff ?_
              | with_reducible refine w_gldN_tf ?_
              | with_reducible refine w_gldN_ft ?_
              | with_reducible refine w_gB_tt ?_
              | with_reducible refine w_gB_ff ?_
              | with_reducible refine w_bind un_not ?_
              | with_reducible refine w_cond_t ?_
              | with_reducible refine w_cond_f ?_
              | with_reducible refine w_bind gV_u ?_
              | with_reducible refine w_bind gB_u ?_
              | with_reducible refine w_gld_u ?_)
            refine w_rldF (l := l) h hcl (by omega) rfl ?_
            repeat (first
              | with_reducible refine w_bind (pick_t _ _) ?_
              | with_reducible refine w_bind (pick_f _ _) ?_
              | with_reducible refine w_bind gV_tt ?_
              | with_reducible refine w_bind gV_ff ?_
              | with_reducible refine w_bind gV_tf ?_
              | with_reducible refine w_bind gV_ft ?_
              | with_reducible refine w_bind gB_tf ?_
              | with_reducible refine w_bind gB_ft ?_
              | with_reducible refine w_gE_tf ?_
              | with_reducible refine w_gE_ft ?_
              | with_reducible refine w_gE_tt ?_
              | with_reducible refine w_gE_ff ?_
              | with_reducible refine w_onK_tf ?_
              | with_reducible refine w_onK_ft ?_
              | with_reducible refine w_onK_tt ?_
              | with_reducible refine w_onK_ff ?_
              | with_reducible refine w_gld_tt ?_
              | with_reducible refine w_gld_ff ?_
              | with_reducible refine w_gld_tf ?_
              | with_reducible refine w_gld_ft ?_
              | with_reducible refine w_gldN_tt ?_
              | with_reducible refine w_gldN_ff ?_
              | with_reducible refine w_gldN_tf ?_
              | with_reducible refine w_gldN_ft ?_
              | with_reducible refine w_gB_tt ?_
              | with_reducible refine w_gB_ff ?_
              | with_reducible refine w_bind un_not ?_
              | with_reducible refine w_cond_t ?_
              | with_reducible refine w_cond_f ?_
              | with_reducible refine w_bind gV_u ?_
              | with_reducible refine w_bind gB_u ?_
              | with_reducible refine w_gld_u ?_)
            refine w_bind (eql_t hk3) ?_
            repeat (first
              | with_reducible refine w_bind (pick_t _ _) ?_
              | with_reducible refine w_bind (pick_f _ _) ?_
              | with_reducible refine w_bind gV_tt ?_
              | with_reducible refine w_bind gV_ff ?_
              | with_reducible refine w_bind gV_tf ?_
              | with_reducible refine w_bind gV_ft ?_
              | with_reducible refine w_bind gB_tf ?_
              | with_reducible refine w_bind gB_ft ?_
              | with_reducible refine w_gE_tf ?_
              | with_reducible refine w_gE_ft ?_
              | with_reducible refine w_gE_tt ?_
              | with_reducible refine w_gE_ff ?_
              | with_reducible refine w_onK_tf ?_
              | with_reducible refine w_onK_ft ?_
              | with_reducible refine w_onK_tt ?_
              | with_reducible refine w_onK_ff ?_
              | with_reducible refine w_gld_tt ?_
              | with_reducible refine w_gld_ff ?_
              | with_reducible refine w_gld_tf ?_
              | with_reducible refine w_gld_ft ?_
              | with_reducible refine w_gldN_tt ?_
              | with_reducible refine w_gldN_ff ?_
              | with_reducible refine w_gldN_tf ?_
              | with_reducible refine w_gldN_ft ?_
              | with_reducible refine w_gB_tt ?_
              | with_reducible refine w_gB_ff ?_
              | with_reducible refine w_bind un_not ?_
              | with_reducible refine w_cond_t ?_
              | with_reducible refine w_cond_f ?_
              | with_reducible refine w_bind gV_u ?_
              | with_reducible refine w_bind gB_u ?_
              | with_reducible refine w_gld_u ?_)
            refine w_rldF (l := l) h hcl (by omega) rfl ?_
            repeat (first
              | with_reducible refine w_bind (pick_t _ _) ?_
              | with_reducible refine w_bind (pick_f _ _) ?_
              | with_reducible refine w_bind gV_tt ?_
              | with_reducible refine w_bind gV_ff ?_
              | with_reducible refine w_bind gV_tf ?_
              | with_reducible refine w_bind gV_ft ?_
              | with_reducible refine w_bind gB_tf ?_
              | with_reducible refine w_bind gB_ft ?_
              | with_reducible refine w_gE_tf ?_
              | with_reducible refine w_gE_ft ?_
              | with_reducible refine w_gE_tt ?_
              | with_reducible refine w_gE_ff ?_
              | with_reducible refine w_onK_tf ?_
              | with_reducible refine w_onK_ft ?_
              | with_reducible refine w_onK_tt ?_
              | with_reducible refine w_onK_ff ?_
              | with_reducible refine w_gld_tt ?_
              | with_reducible refine w_gld_ff ?_
              | with_reducible refine w_gld_tf ?_
              | with_reducible refine w_gld_ft ?_
              | with_reducible refine w_gldN_tt ?_
              | with_reducible refine w_gldN_ff ?_
              | with_reducible refine w_gldN_tf ?_
              | with_reducible refine w_gldN_ft ?_
              | with_reducible refine w_gB_tt ?_
              | with_reducible refine w_gB_ff ?_
              | with_reducible refine w_bind un_not ?_
              | with_reducible refine w_cond_t ?_
              | with_reducible refine w_cond_f ?_
              | with_reducible refine w_bind gV_u ?_
              | with_reducible refine w_bind gB_u ?_
              | with_reducible refine w_gld_u ?_)
            refine w_rldF (l := l) h hil (by omega) rfl ?_
            repeat (first
              | with_reducible refine w_bind (pick_t _ _) ?_
              | with_reducible refine w_bind (pick_f _ _) ?_
              | with_reducible refine w_bind gV_tt ?_
              | with_reducible refine w_bind gV_ff ?_
              | with_reducible refine w_bind gV_tf ?_
              | with_reducible refine w_bind gV_ft ?_
              | with_reducible refine w_bind gB_tf ?_
              | with_reducible refine w_bind gB_ft ?_
              | with_reducible refine w_gE_tf ?_
              | with_reducible refine w_gE_ft ?_
              | with_reducible refine w_gE_tt ?_
              | with_reducible refine w_gE_ff ?_
              | with_reducible refine w_onK_tf ?_
              | with_reducible refine w_onK_ft ?_
              | with_reducible refine w_onK_tt ?_
              | with_reducible refine w_onK_ff ?_
              | with_reducible refine w_gld_tt ?_
              | with_reducible refine w_gld_ff ?_
              | with_reducible refine w_gld_tf ?_
              | with_reducible refine w_gld_ft ?_
              | with_reducible refine w_gldN_tt ?_
              | with_reducible refine w_gldN_ff ?_
              | with_reducible refine w_gldN_tf ?_
              | with_reducible refine w_gldN_ft ?_
              | with_reducible refine w_gB_tt ?_
              | with_reducible refine w_gB_ff ?_
              | with_reducible refine w_bind un_not ?_
              | with_reducible refine w_cond_t ?_
              | with_reducible refine w_cond_f ?_
              | with_reducible refine w_bind gV_u ?_
              | with_reducible refine w_bind gB_u ?_
              | with_reducible refine w_gld_u ?_)
            refine w_bind (neq_t hw3) ?_
            repeat (first
              | with_reducible refine w_bind (pick_t _ _) ?_
              | with_reducible refine w_bind (pick_f _ _) ?_
              | with_reducible refine w_bind gV_tt ?_
              | with_reducible refine w_bind gV_ff ?_
              | with_reducible refine w_bind gV_tf ?_
              | with_reducible refine w_bind gV_ft ?_
              | with_reducible refine w_bind gB_tf ?_
              | with_reducible refine w_bind gB_ft ?_
              | with_reducible refine w_gE_tf ?_
              | with_reducible refine w_gE_ft ?_
              | with_reducible refine w_gE_tt ?_
              | with_reducible refine w_gE_ff ?_
              | with_reducible refine w_onK_tf ?_
              | with_reducible refine w_onK_ft ?_
              | with_reducible refine w_onK_tt ?_
              | with_reducible refine w_onK_ff ?_
              | with_reducible refine w_gld_tt ?_
              | with_reducible refine w_gld_ff ?_
              | with_reducible refine w_gld_tf ?_
              | with_reducible refine w_gld_ft ?_
              | with_reducible refine w_gldN_tt ?_
              | with_reducible refine w_gldN_ff ?_
              | with_reducible refine w_gldN_tf ?_
              | with_reducible refine w_gldN_ft ?_
              | with_reducible refine w_gB_tt ?_
              | with_reducible refine w_gB_ff ?_
              | with_reducible refine w_bind un_not ?_
              | with_reducible refine w_cond_t ?_
              | with_reducible refine w_cond_f ?_
              | with_reducible refine w_bind gV_u ?_
              | with_reducible refine w_bind gB_u ?_
              | with_reducible refine w_gld_u ?_)
            refine w_rldF (l := l) h hcl (by omega) rfl ?_
            by_cases hk1 : l[c].kind = 1
            · refine w_bind (eql_t hk1) ?_
              repeat (first
                | with_reducible refine w_bind (pick_t _ _) ?_
                | with_reducible refine w_bind (pick_f _ _) ?_
                | with_reducible refine w_bind gV_tt ?_
                | with_reducible refine w_bind gV_ff ?_
                | with_reducible refine w_bind gV_tf ?_
                | with_reducible refine w_bind gV_ft ?_
                | with_reducible refine w_bind gB_tf ?_
                | with_reducible refine w_bind gB_ft ?_
                | with_reducible refine w_gE_tf ?_
                | with_reducible refine w_gE_ft ?_
                | with_reducible refine w_gE_tt ?_
                | with_reducible refine w_gE_ff ?_
                | with_reducible refine w_onK_tf ?_
                | with_reducible refine w_onK_ft ?_
                | with_reducible refine w_onK_tt ?_
                | with_reducible refine w_onK_ff ?_
                | with_reducible refine w_gld_tt ?_
                | with_reducible refine w_gld_ff ?_
                | with_reducible refine w_gld_tf ?_
                | with_reducible refine w_gld_ft ?_
                | with_reducible refine w_gldN_tt ?_
                | with_reducible refine w_gldN_ff ?_
                | with_reducible refine w_gldN_tf ?_
                | with_reducible refine w_gldN_ft ?_
                | with_reducible refine w_gB_tt ?_
                | with_reducible refine w_gB_ff ?_
                | with_reducible refine w_bind un_not ?_
                | with_reducible refine w_cond_t ?_
                | with_reducible refine w_cond_f ?_
                | with_reducible refine w_bind gV_u ?_
                | with_reducible refine w_bind gB_u ?_
                | with_reducible refine w_gld_u ?_)
              refine w_rldF (l := l) h hcl (by omega) rfl ?_
              repeat (first
                | with_reducible refine w_bind (pick_t _ _) ?_
                | with_reducible refine w_bind (pick_f _ _) ?_
                | with_reducible refine w_bind gV_tt ?_
                | with_reducible refine w_bind gV_ff ?_
                | with_reducible refine w_bind gV_tf ?_
                | with_reducible refine w_bind gV_ft ?_
                | with_reducible refine w_bind gB_tf ?_
                | with_reducible refine w_bind gB_ft ?_
                | with_reducible refine w_gE_tf ?_
                | with_reducible refine w_gE_ft ?_
                | with_reducible refine w_gE_tt ?_
                | with_reducible refine w_gE_ff ?_
                | with_reducible refine w_onK_tf ?_
                | with_reducible refine w_onK_ft ?_
                | with_reducible refine w_onK_tt ?_
                | with_reducible refine w_onK_ff ?_
                | with_reducible refine w_gld_tt ?_
                | with_reducible refine w_gld_ff ?_
                | with_reducible refine w_gld_tf ?_
                | with_reducible refine w_gld_ft ?_
                | with_reducible refine w_gldN_tt ?_
                | with_reducible refine w_gldN_ff ?_
                | with_reducible refine w_gldN_tf ?_
                | with_reducible refine w_gldN_ft ?_
                | with_reducible refine w_gB_tt ?_
                | with_reducible refine w_gB_ff ?_
                | with_reducible refine w_bind un_not ?_
                | with_reducible refine w_cond_t ?_
                | with_reducible refine w_cond_f ?_
                | with_reducible refine w_bind gV_u ?_
                | with_reducible refine w_bind gB_u ?_
                | with_reducible refine w_gld_u ?_)
              refine w_rldF (l := l) h hil (by omega) rfl ?_
              repeat (first
                | with_reducible refine w_bind (pick_t _ _) ?_
                | with_reducible refine w_bind (pick_f _ _) ?_
                | with_reducible refine w_bind gV_tt ?_
                | with_reducible refine w_bind gV_ff ?_
                | with_reducible refine w_bind gV_tf ?_
                | with_reducible refine w_bind gV_ft ?_
                | with_reducible refine w_bind gB_tf ?_
                | with_reducible refine w_bind gB_ft ?_
                | with_reducible refine w_gE_tf ?_
                | with_reducible refine w_gE_ft ?_
                | with_reducible refine w_gE_tt ?_
                | with_reducible refine w_gE_ff ?_
                | with_reducible refine w_onK_tf ?_
                | with_reducible refine w_onK_ft ?_
                | with_reducible refine w_onK_tt ?_
                | with_reducible refine w_onK_ff ?_
                | with_reducible refine w_gld_tt ?_
                | with_reducible refine w_gld_ff ?_
                | with_reducible refine w_gld_tf ?_
                | with_reducible refine w_gld_ft ?_
                | with_reducible refine w_gldN_tt ?_
                | with_reducible refine w_gldN_ff ?_
                | with_reducible refine w_gldN_tf ?_
                | with_reducible refine w_gldN_ft ?_
                | with_reducible refine w_gB_tt ?_
                | with_reducible refine w_gB_ff ?_
                | with_reducible refine w_bind un_not ?_
                | with_reducible refine w_cond_t ?_
                | with_reducible refine w_cond_f ?_
                | with_reducible refine w_bind gV_u ?_
                | with_reducible refine w_bind gB_u ?_
                | with_reducible refine w_gld_u ?_)
              by_cases hw1 : l[c].who = l[i].who
              · refine w_bind (eql_t hw1) ?_
                repeat (first
                  | with_reducible refine w_bind (pick_t _ _) ?_
                  | with_reducible refine w_bind (pick_f _ _) ?_
                  | with_reducible refine w_bind gV_tt ?_
                  | with_reducible refine w_bind gV_ff ?_
                  | with_reducible refine w_bind gV_tf ?_
                  | with_reducible refine w_bind gV_ft ?_
                  | with_reducible refine w_bind gB_tf ?_
                  | with_reducible refine w_bind gB_ft ?_
                  | with_reducible refine w_gE_tf ?_
                  | with_reducible refine w_gE_ft ?_
                  | with_reducible refine w_gE_tt ?_
                  | with_reducible refine w_gE_ff ?_
                  | with_reducible refine w_onK_tf ?_
                  | with_reducible refine w_onK_ft ?_
                  | with_reducible refine w_onK_tt ?_
                  | with_reducible refine w_onK_ff ?_
                  | with_reducible refine w_gld_tt ?_
                  | with_reducible refine w_gld_ff ?_
                  | with_reducible refine w_gld_tf ?_
                  | with_reducible refine w_gld_ft ?_
                  | with_reducible refine w_gldN_tt ?_
                  | with_reducible refine w_gldN_ff ?_
                  | with_reducible refine w_gldN_tf ?_
                  | with_reducible refine w_gldN_ft ?_
                  | with_reducible refine w_gB_tt ?_
                  | with_reducible refine w_gB_ff ?_
                  | with_reducible refine w_bind un_not ?_
                  | with_reducible refine w_cond_t ?_
                  | with_reducible refine w_cond_f ?_
                  | with_reducible refine w_bind gV_u ?_
                  | with_reducible refine w_bind gB_u ?_
                  | with_reducible refine w_gld_u ?_)
                refine wp_eq (r27_Tries_e15_2_eq _ _ _ _ _ H) ?_
                refine wp_eq (r27_Tries_e10_2_eq _ _ _ H) ?_
                exact go (.inr rfl)
              · refine w_bind (eql_f hw1) ?_
                repeat (first
                  | with_reducible refine w_bind (pick_t _ _) ?_
                  | with_reducible refine w_bind (pick_f _ _) ?_
                  | with_reducible refine w_bind gV_tt ?_
                  | with_reducible refine w_bind gV_ff ?_
                  | with_reducible refine w_bind gV_tf ?_
                  | with_reducible refine w_bind gV_ft ?_
                  | with_reducible refine w_bind gB_tf ?_
                  | with_reducible refine w_bind gB_ft ?_
                  | with_reducible refine w_gE_tf ?_
                  | with_reducible refine w_gE_ft ?_
                  | with_reducible refine w_gE_tt ?_
                  | with_reducible refine w_gE_ff ?_
                  | with_reducible refine w_onK_tf ?_
                  | with_reducible refine w_onK_ft ?_
                  | with_reducible refine w_onK_tt ?_
                  | with_reducible refine w_onK_ff ?_
                  | with_reducible refine w_gld_tt ?_
                  | with_reducible refine w_gld_ff ?_
                  | with_reducible refine w_gld_tf ?_
                  | with_reducible refine w_gld_ft ?_
                  | with_reducible refine w_gldN_tt ?_
                  | with_reducible refine w_gldN_ff ?_
                  | with_reducible refine w_gldN_tf ?_
                  | with_reducible refine w_gldN_ft ?_
                  | with_reducible refine w_gB_tt ?_
                  | with_reducible refine w_gB_ff ?_
                  | with_reducible refine w_bind un_not ?_
                  | with_reducible refine w_cond_t ?_
                  | with_reducible refine w_cond_f ?_
                  | with_reducible refine w_bind gV_u ?_
                  | with_reducible refine w_bind gB_u ?_
                  | with_reducible refine w_gld_u ?_)
                refine wp_eq (r27_Tries_k13_eq _ _ _ _ _ H) ?_
                refine w_bind (bin_sub_i (by omega) (by omega)) ?_
                exact ih true (by omega) (fun _ => go (.inr rfl)) (fun h => (by cases h))
            · refine w_bind (eql_f hk1) ?_
              repeat (first
                | with_reducible refine w_bind (pick_t _ _) ?_
                | with_reducible refine w_bind (pick_f _ _) ?_
                | with_reducible refine w_bind gV_tt ?_
                | with_reducible refine w_bind gV_ff ?_
                | with_reducible refine w_bind gV_tf ?_
                | with_reducible refine w_bind gV_ft ?_
                | with_reducible refine w_bind gB_tf ?_
                | with_reducible refine w_bind gB_ft ?_
                | with_reducible refine w_gE_tf ?_
                | with_reducible refine w_gE_ft ?_
                | with_reducible refine w_gE_tt ?_
                | with_reducible refine w_gE_ff ?_
                | with_reducible refine w_onK_tf ?_
                | with_reducible refine w_onK_ft ?_
                | with_reducible refine w_onK_tt ?_
                | with_reducible refine w_onK_ff ?_
                | with_reducible refine w_gld_tt ?_
                | with_reducible refine w_gld_ff ?_
                | with_reducible refine w_gld_tf ?_
                | with_reducible refine w_gld_ft ?_
                | with_reducible refine w_gldN_tt ?_
                | with_reducible refine w_gldN_ff ?_
                | with_reducible refine w_gldN_tf ?_
                | with_reducible refine w_gldN_ft ?_
                | with_reducible refine w_gB_tt ?_
                | with_reducible refine w_gB_ff ?_
                | with_reducible refine w_bind un_not ?_
                | with_reducible refine w_cond_t ?_
                | with_reducible refine w_cond_f ?_
                | with_reducible refine w_bind gV_u ?_
                | with_reducible refine w_bind gB_u ?_
                | with_reducible refine w_gld_u ?_)
              refine wp_eq (r27_Tries_k13_eq _ _ _ _ _ H) ?_
              refine w_bind (bin_sub_i (by omega) (by omega)) ?_
              exact ih true (by omega) (fun _ => go (.inr rfl)) (fun h => (by cases h))
        · rw [if_neg (fun h => hk3 h.1)] at go stop
          repeat (first
            | with_reducible refine w_bind (pick_t _ _) ?_
            | with_reducible refine w_bind (pick_f _ _) ?_
            | with_reducible refine w_bind gV_tt ?_
            | with_reducible refine w_bind gV_ff ?_
            | with_reducible refine w_bind gV_tf ?_
            | with_reducible refine w_bind gV_ft ?_
            | with_reducible refine w_bind gB_tf ?_
            | with_reducible refine w_bind gB_ft ?_
            | with_reducible refine w_gE_tf ?_
            | with_reducible refine w_gE_ft ?_
            | with_reducible refine w_gE_tt ?_
            | with_reducible refine w_gE_ff ?_
            | with_reducible refine w_onK_tf ?_
            | with_reducible refine w_onK_ft ?_
            | with_reducible refine w_onK_tt ?_
            | with_reducible refine w_onK_ff ?_
            | with_reducible refine w_gld_tt ?_
            | with_reducible refine w_gld_ff ?_
            | with_reducible refine w_gld_tf ?_
            | with_reducible refine w_gld_ft ?_
            | with_reducible refine w_gldN_tt ?_
            | with_reducible refine w_gldN_ff ?_
            | with_reducible refine w_gldN_tf ?_
            | with_reducible refine w_gldN_ft ?_
            | with_reducible refine w_gB_tt ?_
            | with_reducible refine w_gB_ff ?_
            | with_reducible refine w_bind un_not ?_
            | with_reducible refine w_cond_t ?_
            | with_reducible refine w_cond_f ?_
            | with_reducible refine w_bind gV_u ?_
            | with_reducible refine w_bind gB_u ?_
            | with_reducible refine w_gld_u ?_)
          refine w_rldF (l := l) h hcl (by omega) rfl ?_
          repeat (first
            | with_reducible refine w_bind (pick_t _ _) ?_
            | with_reducible refine w_bind (pick_f _ _) ?_
            | with_reducible refine w_bind gV_tt ?_
            | with_reducible refine w_bind gV_ff ?_
            | with_reducible refine w_bind gV_tf ?_
            | with_reducible refine w_bind gV_ft ?_
            | with_reducible refine w_bind gB_tf ?_
            | with_reducible refine w_bind gB_ft ?_
            | with_reducible refine w_gE_tf ?_
            | with_reducible refine w_gE_ft ?_
            | with_reducible refine w_gE_tt ?_
            | with_reducible refine w_gE_ff ?_
            | with_reducible refine w_onK_tf ?_
            | with_reducible refine w_onK_ft ?_
            | with_reducible refine w_onK_tt ?_
            | with_reducible refine w_onK_ff ?_
            | with_reducible refine w_gld_tt ?_
            | with_reducible refine w_gld_ff ?_
            | with_reducible refine w_gld_tf ?_
            | with_reducible refine w_gld_ft ?_
            | with_reducible refine w_gldN_tt ?_
            | with_reducible refine w_gldN_ff ?_
            | with_reducible refine w_gldN_tf ?_
            | with_reducible refine w_gldN_ft ?_
            | with_reducible refine w_gB_tt ?_
            | with_reducible refine w_gB_ff ?_
            | with_reducible refine w_bind un_not ?_
            | with_reducible refine w_cond_t ?_
            | with_reducible refine w_cond_f ?_
            | with_reducible refine w_bind gV_u ?_
            | with_reducible refine w_bind gB_u ?_
            | with_reducible refine w_gld_u ?_)
          refine w_bind (eql_f hk3) ?_
          repeat (first
            | with_reducible refine w_bind (pick_t _ _) ?_
            | with_reducible refine w_bind (pick_f _ _) ?_
            | with_reducible refine w_bind gV_tt ?_
            | with_reducible refine w_bind gV_ff ?_
            | with_reducible refine w_bind gV_tf ?_
            | with_reducible refine w_bind gV_ft ?_
            | with_reducible refine w_bind gB_tf ?_
            | with_reducible refine w_bind gB_ft ?_
            | with_reducible refine w_gE_tf ?_
            | with_reducible refine w_gE_ft ?_
            | with_reducible refine w_gE_tt ?_
            | with_reducible refine w_gE_ff ?_
            | with_reducible refine w_onK_tf ?_
            | with_reducible refine w_onK_ft ?_
            | with_reducible refine w_onK_tt ?_
            | with_reducible refine w_onK_ff ?_
            | with_reducible refine w_gld_tt ?_
            | with_reducible refine w_gld_ff ?_
            | with_reducible refine w_gld_tf ?_
            | with_reducible refine w_gld_ft ?_
            | with_reducible refine w_gldN_tt ?_
            | with_reducible refine w_gldN_ff ?_
            | with_reducible refine w_gldN_tf ?_
            | with_reducible refine w_gldN_ft ?_
            | with_reducible refine w_gB_tt ?_
            | with_reducible refine w_gB_ff ?_
            | with_reducible refine w_bind un_not ?_
            | with_reducible refine w_cond_t ?_
            | with_reducible refine w_cond_f ?_
            | with_reducible refine w_bind gV_u ?_
            | with_reducible refine w_bind gB_u ?_
            | with_reducible refine w_gld_u ?_)
          refine w_rldF (l := l) h hcl (by omega) rfl ?_
          by_cases hk1 : l[c].kind = 1
          · refine w_bind (eql_t hk1) ?_
            repeat (first
              | with_reducible refine w_bind (pick_t _ _) ?_
              | with_reducible refine w_bind (pick_f _ _) ?_
              | with_reducible refine w_bind gV_tt ?_
              | with_reducible refine w_bind gV_ff ?_
              | with_reducible refine w_bind gV_tf ?_
              | with_reducible refine w_bind gV_ft ?_
              | with_reducible refine w_bind gB_tf ?_
              | with_reducible refine w_bind gB_ft ?_
              | with_reducible refine w_gE_tf ?_
              | with_reducible refine w_gE_ft ?_
              | with_reducible refine w_gE_tt ?_
              | with_reducible refine w_gE_ff ?_
              | with_reducible refine w_onK_tf ?_
              | with_reducible refine w_onK_ft ?_
              | with_reducible refine w_onK_tt ?_
              | with_reducible refine w_onK_ff ?_
              | with_reducible refine w_gld_tt ?_
              | with_reducible refine w_gld_ff ?_
              | with_reducible refine w_gld_tf ?_
              | with_reducible refine w_gld_ft ?_
              | with_reducible refine w_gldN_tt ?_
              | with_reducible refine w_gldN_ff ?_
              | with_reducible refine w_gldN_tf ?_
              | with_reducible refine w_gldN_ft ?_
              | with_reducible refine w_gB_tt ?_
              | with_reducible refine w_gB_ff ?_
              | with_reducible refine w_bind un_not ?_
              | with_reducible refine w_cond_t ?_
              | with_reducible refine w_cond_f ?_
              | with_reducible refine w_bind gV_u ?_
              | with_reducible refine w_bind gB_u ?_
              | with_reducible refine w_gld_u ?_)
            refine w_rldF (l := l) h hcl (by omega) rfl ?_
            repeat (first
              | with_reducible refine w_bind (pick_t _ _) ?_
              | with_reducible refine w_bind (pick_f _ _) ?_
              | with_reducible refine w_bind gV_tt ?_
              | with_reducible refine w_bind gV_ff ?_
              | with_reducible refine w_bind gV_tf ?_
              | with_reducible refine w_bind gV_ft ?_
              | with_reducible refine w_bind gB_tf ?_
              | with_reducible refine w_bind gB_ft ?_
              | with_reducible refine w_gE_tf ?_
              | with_reducible refine w_gE_ft ?_
              | with_reducible refine w_gE_tt ?_
              | with_reducible refine w_gE_ff ?_
              | with_reducible refine w_onK_tf ?_
              | with_reducible refine w_onK_ft ?_
              | with_reducible refine w_onK_tt ?_
              | with_reducible refine w_onK_ff ?_
              | with_reducible refine w_gld_tt ?_
              | with_reducible refine w_gld_ff ?_
              | with_reducible refine w_gld_tf ?_
              | with_reducible refine w_gld_ft ?_
              | with_reducible refine w_gldN_tt ?_
              | with_reducible refine w_gldN_ff ?_
              | with_reducible refine w_gldN_tf ?_
              | with_reducible refine w_gldN_ft ?_
              | with_reducible refine w_gB_tt ?_
              | with_reducible refine w_gB_ff ?_
              | with_reducible refine w_bind un_not ?_
              | with_reducible refine w_cond_t ?_
              | with_reducible refine w_cond_f ?_
              | with_reducible refine w_bind gV_u ?_
              | with_reducible refine w_bind gB_u ?_
              | with_reducible refine w_gld_u ?_)
            refine w_rldF (l := l) h hil (by omega) rfl ?_
            repeat (first
              | with_reducible refine w_bind (pick_t _ _) ?_
              | with_reducible refine w_bind (pick_f _ _) ?_
              | with_reducible refine w_bind gV_tt ?_
              | with_reducible refine w_bind gV_ff ?_
              | with_reducible refine w_bind gV_tf ?_
              | with_reducible refine w_bind gV_ft ?_
              | with_reducible refine w_bind gB_tf ?_
              | with_reducible refine w_bind gB_ft ?_
              | with_reducible refine w_gE_tf ?_
              | with_reducible refine w_gE_ft ?_
              | with_reducible refine w_gE_tt ?_
              | with_reducible refine w_gE_ff ?_
              | with_reducible refine w_onK_tf ?_
              | with_reducible refine w_onK_ft ?_
              | with_reducible refine w_onK_tt ?_
              | with_reducible refine w_onK_ff ?_
              | with_reducible refine w_gld_tt ?_
              | with_reducible refine w_gld_ff ?_
              | with_reducible refine w_gld_tf ?_
              | with_reducible refine w_gld_ft ?_
              | with_reducible refine w_gldN_tt ?_
              | with_reducible refine w_gldN_ff ?_
              | with_reducible refine w_gldN_tf ?_
              | with_reducible refine w_gldN_ft ?_
              | with_reducible refine w_gB_tt ?_
              | with_reducible refine w_gB_ff ?_
              | with_reducible refine w_bind un_not ?_
              | with_reducible refine w_cond_t ?_
              | with_reducible refine w_cond_f ?_
              | with_reducible refine w_bind gV_u ?_
              | with_reducible refine w_bind gB_u ?_
              | with_reducible refine w_gld_u ?_)
            by_cases hw1 : l[c].who = l[i].who
            · refine w_bind (eql_t hw1) ?_
              repeat (first
                | with_reducible refine w_bind (pick_t _ _) ?_
                | with_reducible refine w_bind (pick_f _ _) ?_
                | with_reducible refine w_bind gV_tt ?_
                | with_reducible refine w_bind gV_ff ?_
                | with_reducible refine w_bind gV_tf ?_
                | with_reducible refine w_bind gV_ft ?_
                | with_reducible refine w_bind gB_tf ?_
                | with_reducible refine w_bind gB_ft ?_
                | with_reducible refine w_gE_tf ?_
                | with_reducible refine w_gE_ft ?_
                | with_reducible refine w_gE_tt ?_
                | with_reducible refine w_gE_ff ?_
                | with_reducible refine w_onK_tf ?_
                | with_reducible refine w_onK_ft ?_
                | with_reducible refine w_onK_tt ?_
                | with_reducible refine w_onK_ff ?_
                | with_reducible refine w_gld_tt ?_
                | with_reducible refine w_gld_ff ?_
                | with_reducible refine w_gld_tf ?_
                | with_reducible refine w_gld_ft ?_
                | with_reducible refine w_gldN_tt ?_
                | with_reducible refine w_gldN_ff ?_
                | with_reducible refine w_gldN_tf ?_
                | with_reducible refine w_gldN_ft ?_
                | with_reducible refine w_gB_tt ?_
                | with_reducible refine w_gB_ff ?_
                | with_reducible refine w_bind un_not ?_
                | with_reducible refine w_cond_t ?_
                | with_reducible refine w_cond_f ?_
                | with_reducible refine w_bind gV_u ?_
                | with_reducible refine w_bind gB_u ?_
                | with_reducible refine w_gld_u ?_)
              rw [if_pos ⟨hk1, hw1⟩] at go stop
              exact w_ret (stop rfl rfl)
            · refine w_bind (eql_f hw1) ?_
              repeat (first
                | with_reducible refine w_bind (pick_t _ _) ?_
                | with_reducible refine w_bind (pick_f _ _) ?_
                | with_reducible refine w_bind gV_tt ?_
                | with_reducible refine w_bind gV_ff ?_
                | with_reducible refine w_bind gV_tf ?_
                | with_reducible refine w_bind gV_ft ?_
                | with_reducible refine w_bind gB_tf ?_
                | with_reducible refine w_bind gB_ft ?_
                | with_reducible refine w_gE_tf ?_
                | with_reducible refine w_gE_ft ?_
                | with_reducible refine w_gE_tt ?_
                | with_reducible refine w_gE_ff ?_
                | with_reducible refine w_onK_tf ?_
                | with_reducible refine w_onK_ft ?_
                | with_reducible refine w_onK_tt ?_
                | with_reducible refine w_onK_ff ?_
                | with_reducible refine w_gld_tt ?_
                | with_reducible refine w_gld_ff ?_
                | with_reducible refine w_gld_tf ?_
                | with_reducible refine w_gld_ft ?_
                | with_reducible refine w_gldN_tt ?_
                | with_reducible refine w_gldN_ff ?_
                | with_reducible refine w_gldN_tf ?_
                | with_reducible refine w_gldN_ft ?_
                | with_reducible refine w_gB_tt ?_
                | with_reducible refine w_gB_ff ?_
                | with_reducible refine w_bind un_not ?_
                | with_reducible refine w_cond_t ?_
                | with_reducible refine w_cond_f ?_
                | with_reducible refine w_bind gV_u ?_
                | with_reducible refine w_bind gB_u ?_
                | with_reducible refine w_gld_u ?_)
              refine wp_eq (r27_Tries_k13_eq _ _ _ _ _ H) ?_
              refine w_bind (bin_sub_i (by omega) (by omega)) ?_
              rw [if_neg (fun h => hw1 h.2)] at go stop
              exact ih false (by omega) go stop
          · refine w_bind (eql_f hk1) ?_
            repeat (first
              | with_reducible refine w_bind (pick_t _ _) ?_
              | with_reducible refine w_bind (pick_f _ _) ?_
              | with_reducible refine w_bind gV_tt ?_
              | with_reducible refine w_bind gV_ff ?_
              | with_reducible refine w_bind gV_tf ?_
              | with_reducible refine w_bind gV_ft ?_
              | with_reducible refine w_bind gB_tf ?_
              | with_reducible refine w_bind gB_ft ?_
              | with_reducible refine w_gE_tf ?_
              | with_reducible refine w_gE_ft ?_
              | with_reducible refine w_gE_tt ?_
              | with_reducible refine w_gE_ff ?_
              | with_reducible refine w_onK_tf ?_
              | with_reducible refine w_onK_ft ?_
              | with_reducible refine w_onK_tt ?_
              | with_reducible refine w_onK_ff ?_
              | with_reducible refine w_gld_tt ?_
              | with_reducible refine w_gld_ff ?_
              | with_reducible refine w_gld_tf ?_
              | with_reducible refine w_gld_ft ?_
              | with_reducible refine w_gldN_tt ?_
              | with_reducible refine w_gldN_ff ?_
              | with_reducible refine w_gldN_tf ?_
              | with_reducible refine w_gldN_ft ?_
              | with_reducible refine w_gB_tt ?_
              | with_reducible refine w_gB_ff ?_
              | with_reducible refine w_bind un_not ?_
              | with_reducible refine w_cond_t ?_
              | with_reducible refine w_cond_f ?_
              | with_reducible refine w_bind gV_u ?_
              | with_reducible refine w_bind gB_u ?_
              | with_reducible refine w_gld_u ?_)
            refine wp_eq (r27_Tries_k13_eq _ _ _ _ _ H) ?_
            refine w_bind (bin_sub_i (by omega) (by omega)) ?_
            rw [if_neg (fun h => hk1 h.1)] at go stop
            exact ih false (by omega) go stop
    · rw [if_neg hloc] at go stop
      rw [beq_eq_false_iff_ne.2 hloc, Bool.not_false]
      repeat (first
        | with_reducible refine w_bind (pick_t _ _) ?_
        | with_reducible refine w_bind (pick_f _ _) ?_
        | with_reducible refine w_bind gV_tt ?_
        | with_reducible refine w_bind gV_ff ?_
        | with_reducible refine w_bind gV_tf ?_
        | with_reducible refine w_bind gV_ft ?_
        | with_reducible refine w_bind gB_tf ?_
        | with_reducible refine w_bind gB_ft ?_
        | with_reducible refine w_gE_tf ?_
        | with_reducible refine w_gE_ft ?_
        | with_reducible refine w_gE_tt ?_
        | with_reducible refine w_gE_ff ?_
        | with_reducible refine w_onK_tf ?_
        | with_reducible refine w_onK_ft ?_
        | with_reducible refine w_onK_tt ?_
        | with_reducible refine w_onK_ff ?_
        | with_reducible refine w_gld_tt ?_
        | with_reducible refine w_gld_ff ?_
        | with_reducible refine w_gld_tf ?_
        | with_reducible refine w_gld_ft ?_
        | with_reducible refine w_gldN_tt ?_
        | with_reducible refine w_gldN_ff ?_
        | with_reducible refine w_gldN_tf ?_
        | with_reducible refine w_gldN_ft ?_
        | with_reducible refine w_gB_tt ?_
        | with_reducible refine w_gB_ff ?_
        | with_reducible refine w_bind un_not ?_
        | with_reducible refine w_cond_t ?_
        | with_reducible refine w_cond_f ?_
        | with_reducible refine w_bind gV_u ?_
        | with_reducible refine w_bind gB_u ?_
        | with_reducible refine w_gld_u ?_)
      refine wp_eq (r27_Tries_e15_3_eq _ _ _ _ _ H) ?_
      refine wp_eq (r27_Tries_k13_eq _ _ _ _ _ H) ?_
      refine w_bind (bin_sub_i (by omega) (by omega)) ?_
      exact ih t (by omega) go stop
theorem r27_tries [r : Rd P s 5 Ev.cells l] (hl : l.length < 1099511627776) : Sp n_r27_Tries [s] P (fun _ : Unit => vb (triesB l)) (fun _ => P) := by
  refine sp_of fun R H h => ?_
  refine wp_of (fun r => r27_Tries_of _ H) ?_
  refine wp_eq (r27_Tries_k0_eq _ _ H) ?_
  refine wp_eq (r27_Tries_k2_eq _ _ _ H) ?_
  have loop : ∀ (d i : Nat), i + d = l.length → triesB l = triesFrom (l.take i).reverse (l.drop i) → wp (r27_Tries_k4 s (vb false) (vi i) H) fun v' H' => ∃ x : Unit, v' = vb (triesB l) ∧ Holds (P * R) H' := by
    intro d
    induction d with
    | zero =>
      intro i hi ht
      refine wp_eq (r27_Tries_k4_eq _ _ _ H) ?_
      refine w_rlen (l := l) h ?_
      refine w_bind (lss_f (by omega)) ?_
      repeat (first
        | with_reducible refine w_bind (pick_t _ _) ?_
        | with_reducible refine w_bind (pick_f _ _) ?_
        | with_reducible refine w_bind gV_tt ?_
        | with_reducible refine w_bind gV_ff ?_
        | with_reducible refine w_bind gV_tf ?_
        | with_reducible refine w_bind gV_ft ?_
        | with_reducible refine w_bind gB_tf ?_
        | with_reducible refine w_bind gB_ft ?_
        | with_reducible refine w_gE_tf ?_
        | with_reducible refine w_gE_ft ?_
        | with_reducible refine w_gE_tt ?_
        | with_reducible refine w_gE_ff ?_
        | with_reducible refine w_onK_tf ?_
        | with_reducible refine w_onK_ft ?_
        | with_reducible refine w_onK_tt ?_
        | with_reducible refine w_onK_ff ?_
        | with_reducible refine w_gld_tt ?_
        | with_reducible refine w_gld_ff ?_
        | with_reducible refine w_gld_tf ?_
        | with_reducible refine w_gld_ft ?_
        | with_reducible refine w_gldN_tt ?_
        | with_reducible refine w_gldN_ff ?_
        | with_reducible refine w_gldN_tf ?_
        | with_reducible refine w_gldN_ft ?_
        | with_reducible refine w_gB_tt ?_
        | with_reducible refine w_gB_ff ?_
        | with_reducible refine w_bind un_not ?_
        | with_reducible refine w_cond_t ?_
        | with_reducible refine w_cond_f ?_
        | with_reducible refine w_bind gV_u ?_
        | with_reducible refine w_bind gB_u ?_
        | with_reducible refine w_gld_u ?_)
      refine wp_eq (r27_Tries_e3_0_eq _ H) ?_
      refine wp_eq (r27_Tries_k1_eq _ H) ?_
      rw [List.drop_eq_nil_of_le (by omega)] at ht
      rw [ht]
      exact w_ret ⟨(), rfl, h⟩
    | succ d ih =>
      intro i hi ht
      have hil : i < l.length := by omega
      rw [tries_step hil] at ht
      have next : tried (l.take i).reverse l[i] = true → wp (r27_Tries_k6 s (vb false) (vi i) H) fun v' H' => ∃ x : Unit, v' = vb (triesB l) ∧ Holds (P * R) H' := by
        intro htr
        refine wp_eq (r27_Tries_k6_eq _ _ _ H) ?_
        refine w_bind (bin_add_i (by omega) (by omega)) ?_
        rw [htr, Bool.true_and] at ht
        exact ih (i + 1) (by omega) ht
      refine wp_eq (r27_Tries_k4_eq _ _ _ H) ?_
      refine w_rlen (l := l) h ?_
      refine w_bind (lss_t (by omega)) ?_
      repeat (first
        | with_reducible refine w_bind (pick_t _ _) ?_
        | with_reducible refine w_bind (pick_f _ _) ?_
        | with_reducible refine w_bind gV_tt ?_
        | with_reducible refine w_bind gV_ff ?_
        | with_reducible refine w_bind gV_tf ?_
        | with_reducible refine w_bind gV_ft ?_
        | with_reducible refine w_bind gB_tf ?_
        | with_reducible refine w_bind gB_ft ?_
        | with_reducible refine w_gE_tf ?_
        | with_reducible refine w_gE_ft ?_
        | with_reducible refine w_gE_tt ?_
        | with_reducible refine w_gE_ff ?_
        | with_reducible refine w_onK_tf ?_
        | with_reducible refine w_onK_ft ?_
        | with_reducible refine w_onK_tt ?_
        | with_reducible refine w_onK_ff ?_
        | with_reducible refine w_gld_tt ?_
        | with_reducible refine w_gld_ff ?_
        | with_reducible refine w_gld_tf ?_
        | with_reducible refine w_gld_ft ?_
        | with_reducible refine w_gldN_tt ?_
        | with_reducible refine w_gldN_ff ?_
        | with_reducible refine w_gldN_tf ?_
        | with_reducible refine w_gldN_ft ?_
        | with_reducible refine w_gB_tt ?_
        | with_reducible refine w_gB_ff ?_
        | with_reducible refine w_bind un_not ?_
        | with_reducible refine w_cond_t ?_
        | with_reducible refine w_cond_f ?_
        | with_reducible refine w_bind gV_u ?_
        | with_reducible refine w_bind gB_u ?_
        | with_reducible refine w_gld_u ?_)
      refine wp_eq (r27_Tries_k5_eq _ _ _ H) ?_
      refine w_rldF (l := l) h hil (by omega) rfl ?_
      by_cases hf : l[i].kind = 4
      · refine w_bind (neq_f hf) ?_
        repeat (first
          | with_reducible refine w_bind (pick_t _ _) ?_
          | with_reducible refine w_bind (pick_f _ _) ?_
          | with_reducible refine w_bind gV_tt ?_
          | with_reducible refine w_bind gV_ff ?_
          | with_reducible refine w_bind gV_tf ?_
          | with_reducible refine w_bind gV_ft ?_
          | with_reducible refine w_bind gB_tf ?_
          | with_reducible refine w_bind gB_ft ?_
          | with_reducible refine w_gE_tf ?_
          | with_reducible refine w_gE_ft ?_
          | with_reducible refine w_gE_tt ?_
          | with_reducible refine w_gE_ff ?_
          | with_reducible refine w_onK_tf ?_
          | with_reducible refine w_onK_ft ?_
          | with_reducible refine w_onK_tt ?_
          | with_reducible refine w_onK_ff ?_
          | with_reducible refine w_gld_tt ?_
          | with_reducible refine w_gld_ff ?_
          | with_reducible refine w_gld_tf ?_
          | with_reducible refine w_gld_ft ?_
          | with_reducible refine w_gldN_tt ?_
          | with_reducible refine w_gldN_ff ?_
          | with_reducible refine w_gldN_tf ?_
          | with_reducible refine w_gldN_ft ?_
          | with_reducible refine w_gB_tt ?_
          | with_reducible refine w_gB_ff ?_
          | with_reducible refine w_bind un_not ?_
          | with_reducible refine w_cond_t ?_
          | with_reducible refine w_cond_f ?_
          | with_reducible refine w_bind gV_u ?_
          | with_reducible refine w_bind gB_u ?_
          | with_reducible refine w_gld_u ?_)
        refine w_rldFF (l := l) h hil (by omega) rfl ?_
        repeat (first
          | with_reducible refine w_bind (pick_t _ _) ?_
          | with_reducible refine w_bind (pick_f _ _) ?_
          | with_reducible refine w_bind gV_tt ?_
          | with_reducible refine w_bind gV_ff ?_
          | with_reducible refine w_bind gV_tf ?_
          | with_reducible refine w_bind gV_ft ?_
          | with_reducible refine w_bind gB_tf ?_
          | with_reducible refine w_bind gB_ft ?_
          | with_reducible refine w_gE_tf ?_
          | with_reducible refine w_gE_ft ?_
          | with_reducible refine w_gE_tt ?_
          | with_reducible refine w_gE_ff ?_
          | with_reducible refine w_onK_tf ?_
          | with_reducible refine w_onK_ft ?_
          | with_reducible refine w_onK_tt ?_
          | with_reducible refine w_onK_ff ?_
          | with_reducible refine w_gld_tt ?_
          | with_reducible refine w_gld_ff ?_
          | with_reducible refine w_gld_tf ?_
          | with_reducible refine w_gld_ft ?_
          | with_reducible refine w_gldN_tt ?_
          | with_reducible refine w_gldN_ff ?_
          | with_reducible refine w_gldN_tf ?_
          | with_reducible refine w_gldN_ft ?_
          | with_reducible refine w_gB_tt ?_
          | with_reducible refine w_gB_ff ?_
          | with_reducible refine w_bind un_not ?_
          | with_reducible refine w_cond_t ?_
          | with_reducible refine w_cond_f ?_
          | with_reducible refine w_bind gV_u ?_
          | with_reducible refine w_bind gB_u ?_
          | with_reducible refine w_gld_u ?_)
        by_cases hloc : l[i].loc.1 = 11
        · refine w_bind (neq_f hloc) ?_
          repeat (first
            | with_reducible refine w_bind (pick_t _ _) ?_
            | with_reducible refine w_bind (pick_f _ _) ?_
            | with_reducible refine w_bind gV_tt ?_
            | with_reducible refine w_bind gV_ff ?_
            | with_reducible refine w_bind gV_tf ?_
            | with_reducible refine w_bind gV_ft ?_
            | with_reducible refine w_bind gB_tf ?_
            | with_reducible refine w_bind gB_ft ?_
            | with_reducible refine w_gE_tf ?_
            | with_reducible refine w_gE_ft ?_
            | with_reducible refine w_gE_tt ?_
            | with_reducible refine w_gE_ff ?_
            | with_reducible refine w_onK_tf ?_
            | with_reducible refine w_onK_ft ?_
            | with_reducible refine w_onK_tt ?_
            | with_reducible refine w_onK_ff ?_
            | with_reducible refine w_gld_tt ?_
            | with_reducible refine w_gld_ff ?_
            | with_reducible refine w_gld_tf ?_
            | with_reducible refine w_gld_ft ?_
            | with_reducible refine w_gldN_tt ?_
            | with_reducible refine w_gldN_ff ?_
            | with_reducible refine w_gldN_tf ?_
            | with_reducible refine w_gldN_ft ?_
            | with_reducible refine w_gB_tt ?_
            | with_reducible refine w_gB_ff ?_
            | with_reducible refine w_bind un_not ?_
            | with_reducible refine w_cond_t ?_
            | with_reducible refine w_cond_f ?_
            | with_reducible refine w_bind gV_u ?_
            | with_reducible refine w_bind gB_u ?_
            | with_reducible refine w_gld_u ?_)
          refine w_bind (bin_sub_i (by omega) (by omega)) ?_
          refine wp_eq (r27_Tries_k9_eq _ _ _ _ _ H) ?_
          have htr : tried (l.take i).reverse l[i] = back (l.take i).reverse l[i] := by unfold tried; rw [if_pos ⟨hf, hloc⟩]
          refine r27_back hl i hil (vb false) h i false (Nat.le_refl _) (fun hg => ?_) (fun _ hb => ?_)
          · rcases hg with hg | hg
            · cases hg
            · exact next (by rw [htr, hg])
          · rw [ht, htr, hb, Bool.false_and]
            exact ⟨(), rfl, h⟩
        · refine w_bind (neq_t hloc) ?_
          repeat (first
            | with_reducible refine w_bind (pick_t _ _) ?_
            | with_reducible refine w_bind (pick_f _ _) ?_
            | with_reducible refine w_bind gV_tt ?_
            | with_reducible refine w_bind gV_ff ?_
            | with_reducible refine w_bind gV_tf ?_
            | with_reducible refine w_bind gV_ft ?_
            | with_reducible refine w_bind gB_tf ?_
            | with_reducible refine w_bind gB_ft ?_
            | with_reducible refine w_gE_tf ?_
            | with_reducible refine w_gE_ft ?_
            | with_reducible refine w_gE_tt ?_
            | with_reducible refine w_gE_ff ?_
            | with_reducible refine w_onK_tf ?_
            | with_reducible refine w_onK_ft ?_
            | with_reducible refine w_onK_tt ?_
            | with_reducible refine w_onK_ff ?_
            | with_reducible refine w_gld_tt ?_
            | with_reducible refine w_gld_ff ?_
            | with_reducible refine w_gld_tf ?_
            | with_reducible refine w_gld_ft ?_
            | with_reducible refine w_gldN_tt ?_
            | with_reducible refine w_gldN_ff ?_
            | with_reducible refine w_gldN_tf ?_
            | with_reducible refine w_gldN_ft ?_
            | with_reducible refine w_gB_tt ?_
            | with_reducible refine w_gB_ff ?_
            | with_reducible refine w_bind un_not ?_
            | with_reducible refine w_cond_t ?_
            | with_reducible refine w_cond_f ?_
            | with_reducible refine w_bind gV_u ?_
            | with_reducible refine w_bind gB_u ?_
            | with_reducible refine w_gld_u ?_)
          refine wp_eq (r27_Tries_e8_1_eq _ _ _ H) ?_
          exact next (by unfold tried; rw [if_neg (fun h => hloc h.2)])
      · refine w_bind (neq_t hf) ?_
        repeat (first
          | with_reducible refine w_bind (pick_t _ _) ?_
          | with_reducible refine w_bind (pick_f _ _) ?_
          | with_reducible refine w_bind gV_tt ?_
          | with_reducible refine w_bind gV_ff ?_
          | with_reducible refine w_bind gV_tf ?_
          | with_reducible refine w_bind gV_ft ?_
          | with_reducible refine w_bind gB_tf ?_
          | with_reducible refine w_bind gB_ft ?_
          | with_reducible refine w_gE_tf ?_
          | with_reducible refine w_gE_ft ?_
          | with_reducible refine w_gE_tt ?_
          | with_reducible refine w_gE_ff ?_
          | with_reducible refine w_onK_tf ?_
          | with_reducible refine w_onK_ft ?_
          | with_reducible refine w_onK_tt ?_
          | with_reducible refine w_onK_ff ?_
          | with_reducible refine w_gld_tt ?_
          | with_reducible refine w_gld_ff ?_
          | with_reducible refine w_gld_tf ?_
          | with_reducible refine w_gld_ft ?_
          | with_reducible refine w_gldN_tt ?_
          | with_reducible refine w_gldN_ff ?_
          | with_reducible refine w_gldN_tf ?_
          | with_reducible refine w_gldN_ft ?_
          | with_reducible refine w_gB_tt ?_
          | with_reducible refine w_gB_ff ?_
          | with_reducible refine w_bind un_not ?_
          | with_reducible refine w_cond_t ?_
          | with_reducible refine w_cond_f ?_
          | with_reducible refine w_bind gV_u ?_
          | with_reducible refine w_bind gB_u ?_
          | with_reducible refine w_gld_u ?_)
        refine wp_eq (r27_Tries_e8_1_eq _ _ _ H) ?_
        exact next (by unfold tried; rw [if_neg (fun h => hf h.1)])
  exact loop l.length 0 (by omega) rfl
end
end Go.Proofs.YtbjelopcelompaaGreatDoor.Gst
