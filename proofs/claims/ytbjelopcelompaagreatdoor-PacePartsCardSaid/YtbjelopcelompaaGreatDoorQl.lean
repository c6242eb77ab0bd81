/- How many parts a plan has, and the number of rounds that is told ahead: of the program, and of the reference. -/
import Derived.Test.YtbjelopcelompaaGreatDoorQk
namespace Go.Proofs.YtbjelopcelompaaGreatDoor.Gst
open Go Go.RowKit
set_option linter.unusedSimpArgs false
set_option linter.unusedVariables false
set_option maxHeartbeats 1000000

def partsOf (x : Cl) : Nat := if x.op = 5 then (min (max x.a 1) 16).toNat else 1
theorem partsOf_le (x : Cl) : 1 ≤ partsOf x ∧ partsOf x ≤ 16 := by unfold partsOf; split <;> omega
def pl (l : List Cl) : Nat := (l.map partsOf).sum
def partsN (ll : List (List Cl)) : Nat := (ll.map pl).sum
theorem pl_drop {l : List Cl} {j : Nat} (h : j < l.length) : pl (l.drop j) = partsOf l[j] + pl (l.drop (j + 1)) := by
  unfold pl
  rw [List.drop_eq_getElem_cons h, List.map_cons, List.sum_cons]
theorem pl_le (l : List Cl) : l.length ≤ pl l ∧ pl l ≤ 16 * l.length := by
  unfold pl
  induction l with
  | nil => simp
  | cons x l ih =>
    have := partsOf_le x
    simp only [List.map_cons, List.sum_cons, List.length_cons]
    omega
theorem partsN_drop {ll : List (List Cl)} {i : Nat} (h : i < ll.length) : partsN (ll.drop i) = pl ll[i] + partsN (ll.drop (i + 1)) := by
  unfold partsN
  rw [List.drop_eq_getElem_cons h, List.map_cons, List.sum_cons]
theorem sumL_drop {ll : List (List Cl)} {i : Nat} (h : i < ll.length) : sumL (ll.drop i) = ll[i].length + sumL (ll.drop (i + 1)) := by
  unfold sumL
  rw [List.drop_eq_getElem_cons h, List.map_cons, List.sum_cons]
theorem partsN_le (ll : List (List Cl)) : partsN ll ≤ 16 * sumL ll := by
  unfold partsN sumL
  induction ll with
  | nil => simp
  | cons l ll ih =>
    have := pl_le l
    simp only [List.map_cons, List.sum_cons]
    omega
theorem mayB_iff {c : Cfg} {ll : List (List Cl)} : mayB c ll = true ↔ rightB c = true ∧ (ll.length : Int) ≤ c.wk ∧ sumL ll ≤ 60 := by
  unfold mayB
  rw [Bool.and_eq_true, decide_eq_true_iff]

section
variable {P R : SP} {v : Value} {ll : List (List Cl)} {Q : Value → AH → Prop}
/-- A call's parts, more. -/
theorem part_step {n : Nat} {x : Cl} {k : Value → OV} (hn : n ≤ 100000) (h5 : x.op = 5) (hk : wp (k (vi ((n + partsOf x : Nat) : Int))) Q) :
    wp ((pMax [vi x.a, vi 1]).bind fun v23 => (pMin [v23, vi 16]).bind fun v24 => (pBin .other .add (vi n) v24).bind k) Q := by
  refine w_bind (max_i) ?_
  refine w_bind (min_i) ?_
  refine w_bind (bin_add_i (by omega) (by omega)) ?_
  have e : ((n : Nat) : Int) + min (max x.a 1) 16 = ((n + partsOf x : Nat) : Int) := by
    unfold partsOf
    rw [if_pos h5]
    omega
  rw [e]
  exact hk
theorem pace_inner {s : Value} {l : List Cl} [r : Rd P s 4 Cl.cells l] (x2 lv : Value) (nl i : Int) (hl : l.length ≤ 60) (hQ : ∀ (n : Nat) (H' : AH), Holds (P * R) H' → n ≤ 10000 → wp (pace_Parts_k6 x2 (vi n) lv (vi nl) (vi i) H') Q → True) :
    ∀ (d j n : Nat) (H : AH), j + d = l.length → n + pl (l.drop j) ≤ 10000 → Holds (P * R) H → (∀ H', Holds (P * R) H' → wp (pace_Parts_k6 x2 (vi ((n + pl (l.drop j) : Nat) : Int)) lv (vi nl) (vi i) H') Q) →
      wp (pace_Parts_k11 x2 (vi n) lv (vi nl) (vi i) s (vi l.length) (vi j) H) Q := by
  intro d
  induction d with
  | zero =>
    intro j n H hj hn h hQ
    refine wp_eq (pace_Parts_k11_eq _ _ _ _ _ _ _ _ H) ?_
    refine w_bind (lss_f (by omega)) ?_
    repeat (first
      | with_reducible refine w_bind (pick_t _ _) ?_
      | with_reducible refine w_bind (pick_f _ _) ?_
      | with_reducible refine w_bind gV_tt ?_
      | with_reducible refine w_bind gV_ff ?_
      | with_reducible refine w_bind gV_tf ?_
      | with_reducible refine w_bind gV_ft ?_
      | with_reducible refine w_bind gB_tf ?_
      | with_reducible refine w_bind gB_ft ?_
      | with_reducible refine w_gE_tf ?_
      | with_reducible refine w_gE_ft ?_
      | with_reducible refine w_gE_tt ?_
      | with_reducible refine w_gE_ff ?_
      | with_reducible refine w_onK_tf ?_
      | with_reducible refine w_onK_ft ?_
      | with_reducible refine w_onK_tt ?_
      | with_reducible refine w_onK_ff ?_
      | with_reducible refine w_gld_tt ?_
      | with_reducible refine w_gld_ff ?_
      | with_reducible refine w_gld_tf ?_
      | with_reducible refine w_gld_ft ?_
      | with_reducible refine w_gldN_tt ?_
      | with_reducible refine w_gldN_ff ?_
      | with_reducible refine w_gldN_tf ?_
      | with_reducible refine w_gldN_ft ?_
      | with_reducible refine w_gB_tt ?_
      | with_reducible refine w_gB_ff ?_
      | with_reducible refine w_bind un_not ?_
      | with_reducible refine w_cond_t ?_
      | with_reducible refine w_cond_f ?_
      | with_reducible refine w_bind gV_u ?_
      | with_reducible refine w_bind gB_u ?_
      | with_reducible refine w_gld_u ?_)
    refine wp_eq (pace_Parts_e10_2_eq _ _ _ _ _ H) ?_
    have e : l.drop j = [] := List.drop_eq_nil_of_le (by omega)
    have := hQ H h
    rw [e] at this
    exact this
  | succ d ih =>
    intro j n H hj hn h hQ
    have hjl : j < l.length := by omega
    have hd := pl_drop hjl
    refine wp_eq (pace_Parts_k11_eq _ _ _ _ _ _ _ _ H) ?_
    refine w_bind (lss_t (by omega)) ?_
    repeat (first
      | with_reducible refine w_bind (pick_t _ _) ?_
      | with_reducible refine w_bind (pick_f _ _) ?_
      | with_reducible refine w_bind gV_tt ?_
      | with_reducible refine w_bind gV_ff ?_
      | with_reducible refine w_bind gV_tf ?_
      | with_reducible refine w_bind gV_ft ?_
      | with_reducible refine w_bind gB_tf ?_
      | with_reducible refine w_bind gB_ft ?_
      | with_reducible refine w_gE_tf ?_
      | with_reducible refine w_gE_ft ?_
      | with_reducible refine w_gE_tt ?_
      | with_reducible refine w_gE_ff ?_
      | with_reducible refine w_onK_tf ?_
      | with_reducible refine w_onK_ft ?_
      | with_reducible refine w_onK_tt ?_
      | with_reducible refine w_onK_ff ?_
      | with_reducible refine w_gld_tt ?_
      | with_reducible refine w_gld_ff ?_
      | with_reducible refine w_gld_tf ?_
      | with_reducible refine w_gld_ft ?_
      | with_reducible refine w_gldN_tt ?_
      | with_reducible refine w_gldN_ff ?_
      | with_reducible refine w_gldN_tf ?_
      | with_reducible refine w_gldN_ft ?_
      | with_reducible refine w_gB_tt ?_
      | with_reducible refine w_gB_ff ?_
      | with_reducible refine w_bind un_not ?_
      | with_reducible refine w_cond_t ?_
      | with_reducible refine w_cond_f ?_
      | with_reducible refine w_bind gV_u ?_
      | with_reducible refine w_bind gB_u ?_
      | with_reducible refine w_gld_u ?_)
    refine wp_eq (pace_Parts_k12_eq _ _ _ _ _ _ _ _ H) ?_
    refine w_rldN (l := l) h hjl ?_
    refine w_new h fun b H1 h1 => ?_
    refine w_St h1 rfl rfl fun H2 h2 => ?_
    refine w_ld h2 end_f0 rfl ?_
    have next : wp (pace_Parts_k13 x2 (vi ((n + partsOf l[j] : Nat) : Int)) lv (vi nl) (vi i) s (vi l.length) (vi j) H2) Q := by
      refine wp_eq (pace_Parts_k13_eq _ _ _ _ _ _ _ _ H2) ?_
      refine w_bind (bin_add_i (by omega) (by omega)) ?_
      refine ih (j + 1) (n + partsOf l[j]) H2 (by omega) (by omega) h2.to (fun H' h' => ?_)
      have := hQ H' h'
      rw [hd] at this
      rw [Nat.add_assoc]
      exact this
    by_cases h5 : l[j].op = 5
    · refine w_bind (eql_t h5) ?_
      repeat (first
        | with_reducible refine w_bind (pick_t _ _) ?_
        | with_reducible refine w_bind (pick_f _ _) ?_
        | with_reducible refine w_bind gV_tt ?_
        | with_reducible refine w_bind gV_ff ?_
        | with_reducible refine w_bind gV_tf ?_
        | with_reducible refine w_bind gV_ft ?_
        | with_reducible refine w_bind gB_tf ?_
        | with_reducible refine w_bind gB_ft ?_
        | with_reducible refine w_gE_tf ?_
        | with_reducible refine w_gE_ft ?_
        | with_reducible refine w_gE_tt ?_
        | with_reducible refine w_gE_ff ?_
        | with_reducible refine w_onK_tf ?_
        | with_reducible refine w_onK_ft ?_
        | with_reducible refine w_onK_tt ?_
        | with_reducible refine w_onK_ff ?_
        | with_reducible refine w_gld_tt ?_
        | with_reducible refine w_gld_ff ?_
        | with_reducible refine w_gld_tf ?_
        | with_reducible refine w_gld_ft ?_
        | with_reducible refine w_gldN_tt ?_
        | with_reducible refine w_gldN_ff ?_
        | with_reducible refine w_gldN_tf ?_
        | with_reducible refine w_gldN_ft ?_
        | with_reducible refine w_gB_tt ?_
        | with_reducible refine w_gB_ff ?_
        | with_reducible refine w_bind un_not ?_
        | with_reducible refine w_cond_t ?_
        | with_reducible refine w_cond_f ?_
        | with_reducible refine w_bind gV_u ?_
        | with_reducible refine w_bind gB_u ?_
        | with_reducible refine w_gld_u ?_)
      refine w_ld h2 end_f0 rfl ?_
      exact part_step (by omega) h5 next
    · refine w_bind (eql_f h5) ?_
      repeat (first
        | with_reducible refine w_bind (pick_t _ _) ?_
        | with_reducible refine w_bind (pick_f _ _) ?_
        | with_reducible refine w_bind gV_tt ?_
        | with_reducible refine w_bind gV_ff ?_
        | with_reducible refine w_bind gV_tf ?_
        | with_reducible refine w_bind gV_ft ?_
        | with_reducible refine w_bind gB_tf ?_
        | with_reducible refine w_bind gB_ft ?_
        | with_reducible refine w_gE_tf ?_
        | with_reducible refine w_gE_ft ?_
        | with_reducible refine w_gE_tt ?_
        | with_reducible refine w_gE_ff ?_
        | with_reducible refine w_onK_tf ?_
        | with_reducible refine w_onK_ft ?_
        | with_reducible refine w_onK_tt ?_
        | with_reducible refine w_onK_ff ?_
        | with_reducible refine w_gld_tt ?_
        | with_reducible refine w_gld_ff ?_
        | with_reducible refine w_gld_tf ?_
        | with_reducible refine w_gld_ft ?_
        | with_reducible refine w_gldN_tt ?_
        | with_reducible refine w_gldN_ff ?_
        | with_reducible refine w_gldN_tf ?_
        | with_reducible refine w_gldN_ft ?_
        | with_reducible refine w_gB_tt ?_
        | with_reducible refine w_gB_ff ?_
        | with_reducible refine w_bind un_not ?_
        | with_reducible refine w_cond_t ?_
        | with_reducible refine w_cond_f ?_
        | with_reducible refine w_bind gV_u ?_
        | with_reducible refine w_bind gB_u ?_
        | with_reducible refine w_gld_u ?_)
      refine w_bind (bin_add_i (by omega) (by omega)) ?_
      have e : partsOf l[j] = 1 := by unfold partsOf; rw [if_neg h5]
      rw [e] at next
      exact next
theorem pace_parts [L : Ls P v ll] (c : Cfg) (hn : (ll.length : Int) < 9223372036854775808) (hb : ll.length ≤ 6 → ∀ l ∈ ll, l.length ≤ 140737488355328) :
    Sp n_pace_Parts [.agg (planV c v).toArray] P (fun _ : Unit => vi (if mayB c ll then (partsN ll : Int) else 0)) (fun _ => P) := by
  refine sp_of fun R H h => ?_
  obtain ⟨us, hvl, r1, r2⟩ := L.out
  refine wp_of (fun r => pace_Parts_of _ H) ?_
  refine w_newC h fun b H1 h1 => ?_
  refine w_LdN h1 ?_
  refine w_rox h1 (world_new (v := v) (ll := ll) c hn hb) fun x H2 h2 => ?_
  refine w_bind (v := x) rfl ?_
  refine w_bind (v := vi (if mayB c ll then 0 else 1)) rfl ?_
  cases hm : mayB c ll with
  | false =>
    simp only [Bool.false_eq_true, if_false]
    refine w_bind (neq_t (by omega)) ?_
    repeat (first
      | with_reducible refine w_bind (pick_t _ _) ?_
      | with_reducible refine w_bind (pick_f _ _) ?_
      | with_reducible refine w_bind gV_tt ?_
      | with_reducible refine w_bind gV_ff ?_
      | with_reducible refine w_bind gV_tf ?_
      | with_reducible refine w_bind gV_ft ?_
      | with_reducible refine w_bind gB_tf ?_
      | with_reducible refine w_bind gB_ft ?_
      | with_reducible refine w_gE_tf ?_
      | with_reducible refine w_gE_ft ?_
      | with_reducible refine w_gE_tt ?_
      | with_reducible refine w_gE_ff ?_
      | with_reducible refine w_onK_tf ?_
      | with_reducible refine w_onK_ft ?_
      | with_reducible refine w_onK_tt ?_
      | with_reducible refine w_onK_ff ?_
      | with_reducible refine w_gld_tt ?_
      | with_reducible refine w_gld_ff ?_
      | with_reducible refine w_gld_tf ?_
      | with_reducible refine w_gld_ft ?_
      | with_reducible refine w_gldN_tt ?_
      | with_reducible refine w_gldN_ff ?_
      | with_reducible refine w_gldN_tf ?_
      | with_reducible refine w_gldN_ft ?_
      | with_reducible refine w_gB_tt ?_
      | with_reducible refine w_gB_ff ?_
      | with_reducible refine w_bind un_not ?_
      | with_reducible refine w_cond_t ?_
      | with_reducible refine w_cond_f ?_
      | with_reducible refine w_bind gV_u ?_
      | with_reducible refine w_bind gB_u ?_
      | with_reducible refine w_gld_u ?_)
    exact w_ret ⟨(), rfl, h2.to⟩
  | true =>
    simp only [if_true]
    refine w_bind (neq_f rfl) ?_
    repeat (first
      | with_reducible refine w_bind (pick_t _ _) ?_
      | with_reducible refine w_bind (pick_f _ _) ?_
      | with_reducible refine w_bind gV_tt ?_
      | with_reducible refine w_bind gV_ff ?_
      | with_reducible refine w_bind gV_tf ?_
      | with_reducible refine w_bind gV_ft ?_
      | with_reducible refine w_bind gB_tf ?_
      | with_reducible refine w_bind gB_ft ?_
      | with_reducible refine w_gE_tf ?_
      | with_reducible refine w_gE_ft ?_
      | with_reducible refine w_gE_tt ?_
      | with_reducible refine w_gE_ff ?_
      | with_reducible refine w_onK_tf ?_
      | with_reducible refine w_onK_ft ?_
      | with_reducible refine w_onK_tt ?_
      | with_reducible refine w_onK_ff ?_
      | with_reducible refine w_gld_tt ?_
      | with_reducible refine w_gld_ff ?_
      | with_reducible refine w_gld_tf ?_
      | with_reducible refine w_gld_ft ?_
      | with_reducible refine w_gldN_tt ?_
      | with_reducible refine w_gldN_ff ?_
      | with_reducible refine w_gldN_tf ?_
      | with_reducible refine w_gldN_ft ?_
      | with_reducible refine w_gB_tt ?_
      | with_reducible refine w_gB_ff ?_
      | with_reducible refine w_bind un_not ?_
      | with_reducible refine w_cond_t ?_
      | with_reducible refine w_cond_f ?_
      | with_reducible refine w_bind gV_u ?_
      | with_reducible refine w_bind gB_u ?_
      | with_reducible refine w_gld_u ?_)
    obtain ⟨hc, hlw, hs⟩ := mayB_iff.1 hm
    have hc := rightB_iff.1 hc
    have hp := partsN_le ll
    refine wp_eq (pace_Parts_k0_eq _ _ _ H2) ?_
    refine w_ld h2 end_f0 rfl ?_
    refine w_rlen (l := us) h2 ?_
    refine wp_eq (pace_Parts_k2_eq _ _ _ _ _ H2) ?_
    have loop : ∀ (d i n : Nat) (H : AH), i + d = ll.length → n + partsN (ll.drop i) = partsN ll → Holds (P * R) H → wp (pace_Parts_k4 (vi 0) (vi n) v (vi us.length) (vi i) H) fun v' H' => ∃ x : Unit, v' = vi (partsN ll) ∧ Holds (P * R) H' := by
      intro d
      induction d with
      | zero =>
        intro i n H hi hn h
        refine wp_eq (pace_Parts_k4_eq _ _ _ _ _ H) ?_
        refine w_bind (lss_f (by omega)) ?_
        repeat (first
          | with_reducible refine w_bind (pick_t _ _) ?_
          | with_reducible refine w_bind (pick_f _ _) ?_
          | with_reducible refine w_bind gV_tt ?_
          | with_reducible refine w_bind gV_ff ?_
          | with_reducible refine w_bind gV_tf ?_
          | with_reducible refine w_bind gV_ft ?_
          | with_reducible refine w_bind gB_tf ?_
          | with_reducible refine w_bind gB_ft ?_
          | with_reducible refine w_gE_tf ?_
          | with_reducible refine w_gE_ft ?_
          | with_reducible refine w_gE_tt ?_
          | with_reducible refine w_gE_ff ?_
          | with_reducible refine w_onK_tf ?_
          | with_reducible refine w_onK_ft ?_
          | with_reducible refine w_onK_tt ?_
          | with_reducible refine w_onK_ff ?_
          | with_reducible refine w_gld_tt ?_
          | with_reducible refine w_gld_ff ?_
          | with_reducible refine w_gld_tf ?_
          | with_reducible refine w_gld_ft ?_
          | with_reducible refine w_gldN_tt ?_
          | with_reducible refine w_gldN_ff ?_
          | with_reducible refine w_gldN_tf ?_
          | with_reducible refine w_gldN_ft ?_
          | with_reducible refine w_gB_tt ?_
          | with_reducible refine w_gB_ff ?_
          | with_reducible refine w_bind un_not ?_
          | with_reducible refine w_cond_t ?_
          | with_reducible refine w_cond_f ?_
          | with_reducible refine w_bind gV_u ?_
          | with_reducible refine w_bind gB_u ?_
          | with_reducible refine w_gld_u ?_)
        refine wp_eq (pace_Parts_e3_0_eq _ _ H) ?_
        refine wp_eq (pace_Parts_k1_eq _ _ H) ?_
        have e : ll.drop i = [] := List.drop_eq_nil_of_le (by omega)
        have e2 : n = partsN ll := by rw [← hn, e]; rfl
        rw [e2]
        exact w_ret ⟨(), rfl, h⟩
      | succ d ih =>
        intro i n H hi hn h
        have hiv : i < us.length := by omega
        have hil : i < ll.length := by omega
        haveI := r2 i hiv hil
        have hd := partsN_drop hil
        have hle := sumL_mem hil
        refine wp_eq (pace_Parts_k4_eq _ _ _ _ _ H) ?_
        refine w_bind (lss_t (by omega)) ?_
        repeat (first
          | with_reducible refine w_bind (pick_t _ _) ?_
          | with_reducible refine w_bind (pick_f _ _) ?_
          | with_reducible refine w_bind gV_tt ?_
          | with_reducible refine w_bind gV_ff ?_
          | with_reducible refine w_bind gV_tf ?_
          | with_reducible refine w_bind gV_ft ?_
          | with_reducible refine w_bind gB_tf ?_
          | with_reducible refine w_bind gB_ft ?_
          | with_reducible refine w_gE_tf ?_
          | with_reducible refine w_gE_ft ?_
          | with_reducible refine w_gE_tt ?_
          | with_reducible refine w_gE_ff ?_
          | with_reducible refine w_onK_tf ?_
          | with_reducible refine w_onK_ft ?_
          | with_reducible refine w_onK_tt ?_
          | with_reducible refine w_onK_ff ?_
          | with_reducible refine w_gld_tt ?_
          | with_reducible refine w_gld_ff ?_
          | with_reducible refine w_gld_tf ?_
          | with_reducible refine w_gld_ft ?_
          | with_reducible refine w_gldN_tt ?_
          | with_reducible refine w_gldN_ff ?_
          | with_reducible refine w_gldN_tf ?_
          | with_reducible refine w_gldN_ft ?_
          | with_reducible refine w_gB_tt ?_
          | with_reducible refine w_gB_ff ?_
          | with_reducible refine w_bind un_not ?_
          | with_reducible refine w_cond_t ?_
          | with_reducible refine w_cond_f ?_
          | with_reducible refine w_bind gV_u ?_
          | with_reducible refine w_bind gB_u ?_
          | with_reducible refine w_gld_u ?_)
        refine wp_eq (pace_Parts_k5_eq _ _ _ _ _ H) ?_
        refine w_rld1 (l := us) h hiv rfl ?_
        refine w_rlen (l := ll[i]) h ?_
        refine wp_eq (pace_Parts_k9_eq _ _ _ _ _ _ _ _ H) ?_
        refine pace_inner (l := ll[i]) (s := (us[i]).v) (vi 0) v us.length i (by omega) (fun _ _ _ _ _ => trivial) ll[i].length 0 n H (by omega) (by rw [List.drop_zero]; omega) h (fun H' h' => ?_)
        rw [List.drop_zero]
        refine wp_eq (pace_Parts_k6_eq _ _ _ _ _ H') ?_
        refine w_bind (bin_add_i (by omega) (by omega)) ?_
        exact ih (i + 1) (n + pl ll[i]) H' (by omega) (by omega) h'
    exact loop ll.length 0 0 H2 (by omega) (by rw [List.drop_zero]; omega) h2.to

/-! ### The reference's parts -/
theorem r27_inner_parts (b i : Nat) (c : Cfg) {us : List Sv} (r1 : Rd P v 1 encS us) (hi : i < us.length) {l : List Cl} (r : Rd P (us[i]).v 4 Cl.cells l) (x2 : Value) (hl : l.length ≤ 60) :
    ∀ (d j n : Nat) (H : AH), j + d = l.length → n + pl (l.drop j) ≤ 10000 → Holds (blk b (.cells false (planV c v)) * P * R) H → (∀ H', Holds (blk b (.cells false (planV c v)) * P * R) H' → wp (r27_Parts_k6 (vp b) x2 (vi ((n + pl (l.drop j) : Nat) : Int)) (vi i) H') Q) →
      wp (r27_Parts_k11 (vp b) x2 (vi n) (vi i) (vi j) H) Q := by
  intro d
  induction d with
  | zero =>
    intro j n H hj hn h hQ
    refine wp_eq (r27_Parts_k11_eq _ _ _ _ _ H) ?_
    refine w_ld h end_f0 rfl ?_
    refine w_rld1 (l := us) h hi rfl ?_
    refine w_rlen (l := l) h ?_
    refine w_bind (lss_f (by omega)) ?_
    repeat (first
      | with_reducible refine w_bind (pick_t _ _) ?_
      | with_reducible refine w_bind (pick_f _ _) ?_
      | with_reducible refine w_bind gV_tt ?_
      | with_reducible refine w_bind gV_ff ?_
      | with_reducible refine w_bind gV_tf ?_
      | with_reducible refine w_bind gV_ft ?_
      | with_reducible refine w_bind gB_tf ?_
      | with_reducible refine w_bind gB_ft ?_
      | with_reducible refine w_gE_tf ?_
      | with_reducible refine w_gE_ft ?_
      | with_reducible refine w_gE_tt ?_
      | with_reducible refine w_gE_ff ?_
      | with_reducible refine w_onK_tf ?_
      | with_reducible refine w_onK_ft ?_
      | with_reducible refine w_onK_tt ?_
      | with_reducible refine w_onK_ff ?_
      | with_reducible refine w_gld_tt ?_
      | with_reducible refine w_gld_ff ?_
      | with_reducible refine w_gld_tf ?_
      | with_reducible refine w_gld_ft ?_
      | with_reducible refine w_gldN_tt ?_
      | with_reducible refine w_gldN_ff ?_
      | with_reducible refine w_gldN_tf ?_
      | with_reducible refine w_gldN_ft ?_
      | with_reducible refine w_gB_tt ?_
      | with_reducible refine w_gB_ff ?_
      | with_reducible refine w_bind un_not ?_
      | with_reducible refine w_cond_t ?_
      | with_reducible refine w_cond_f ?_
      | with_reducible refine w_bind gV_u ?_
      | with_reducible refine w_bind gB_u ?_
      | with_reducible refine w_gld_u ?_)
    refine wp_eq (r27_Parts_e10_2_eq _ _ _ _ H) ?_
    have e : l.drop j = [] := List.drop_eq_nil_of_le (by omega)
    have := hQ H h
    rw [e] at this
    exact this
  | succ d ih =>
    intro j n H hj hn h hQ
    have hjl : j < l.length := by omega
    have hd := pl_drop hjl
    refine wp_eq (r27_Parts_k11_eq _ _ _ _ _ H) ?_
    refine w_ld h end_f0 rfl ?_
    refine w_rld1 (l := us) h hi rfl ?_
    refine w_rlen (l := l) h ?_
    refine w_bind (lss_t (by omega)) ?_
    repeat (first
      | with_reducible refine w_bind (pick_t _ _) ?_
      | with_reducible refine w_bind (pick_f _ _) ?_
      | with_reducible refine w_bind gV_tt ?_
      | with_reducible refine w_bind gV_ff ?_
      | with_reducible refine w_bind gV_tf ?_
      | with_reducible refine w_bind gV_ft ?_
      | with_reducible refine w_bind gB_tf ?_
      | with_reducible refine w_bind gB_ft ?_
      | with_reducible refine w_gE_tf ?_
      | with_reducible refine w_gE_ft ?_
      | with_reducible refine w_gE_tt ?_
      | with_reducible refine w_gE_ff ?_
      | with_reducible refine w_onK_tf ?_
      | with_reducible refine w_onK_ft ?_
      | with_reducible refine w_onK_tt ?_
      | with_reducible refine w_onK_ff ?_
      | with_reducible refine w_gld_tt ?_
      | with_reducible refine w_gld_ff ?_
      | with_reducible refine w_gld_tf ?_
      | with_reducible refine w_gld_ft ?_
      | with_reducible refine w_gldN_tt ?_
      | with_reducible refine w_gldN_ff ?_
      | with_reducible refine w_gldN_tf ?_
      | with_reducible refine w_gldN_ft ?_
      | with_reducible refine w_gB_tt ?_
      | with_reducible refine w_gB_ff ?_
      | with_reducible refine w_bind un_not ?_
      | with_reducible refine w_cond_t ?_
      | with_reducible refine w_cond_f ?_
      | with_reducible refine w_bind gV_u ?_
      | with_reducible refine w_bind gB_u ?_
      | with_reducible refine w_gld_u ?_)
    refine wp_eq (r27_Parts_k12_eq _ _ _ _ _ H) ?_
    refine w_ld h end_f0 rfl ?_
    refine w_rld1 (l := us) h hi rfl ?_
    refine w_rldN (l := l) h hjl ?_
    refine w_new h fun b2 H1 h1 => ?_
    refine w_St h1 rfl rfl fun H2 h2 => ?_
    refine w_ld h2 end_f0 rfl ?_
    have next : wp (r27_Parts_k13 (vp b) x2 (vi ((n + partsOf l[j] : Nat) : Int)) (vi i) (vi j) H2) Q := by
      refine wp_eq (r27_Parts_k13_eq _ _ _ _ _ H2) ?_
      refine w_bind (bin_add_i (by omega) (by omega)) ?_
      refine ih (j + 1) (n + partsOf l[j]) H2 (by omega) (by omega) h2.to (fun H' h' => ?_)
      have := hQ H' h'
      rw [hd] at this
      rw [Nat.add_assoc]
      exact this
    by_cases h5 : l[j].op = 5
    · refine w_bind (eql_t h5) ?_
      repeat (first
        | with_reducible refine w_bind (pick_t _ _) ?_
        | with_reducible refine w_bind (pick_f _ _) ?_
        | with_reducible refine w_bind gV_tt ?_
        | with_reducible refine w_bind gV_ff ?_
        | with_reducible refine w_bind gV_tf ?_
        | with_reducible refine w_bind gV_ft ?_
        | with_reducible refine w_bind gB_tf ?_
        | with_reducible refine w_bind gB_ft ?_
        | with_reducible refine w_gE_tf ?_
        | with_reducible refine w_gE_ft ?_
        | with_reducible refine w_gE_tt ?_
        | with_reducible refine w_gE_ff ?_
        | with_reducible refine w_onK_tf ?_
        | with_reducible refine w_onK_ft ?_
        | with_reducible refine w_onK_tt ?_
        | with_reducible refine w_onK_ff ?_
        | with_reducible refine w_gld_tt ?_
        | with_reducible refine w_gld_ff ?_
        | with_reducible refine w_gld_tf ?_
        | with_reducible refine w_gld_ft ?_
        | with_reducible refine w_gldN_tt ?_
        | with_reducible refine w_gldN_ff ?_
        | with_reducible refine w_gldN_tf ?_
        | with_reducible refine w_gldN_ft ?_
        | with_reducible refine w_gB_tt ?_
        | with_reducible refine w_gB_ff ?_
        | with_reducible refine w_bind un_not ?_
        | with_reducible refine w_cond_t ?_
        | with_reducible refine w_cond_f ?_
        | with_reducible refine w_bind gV_u ?_
        | with_reducible refine w_bind gB_u ?_
        | with_reducible refine w_gld_u ?_)
      refine w_ld h2 end_f0 rfl ?_
      exact part_step (by omega) h5 next
    · refine w_bind (eql_f h5) ?_
      repeat (first
        | with_reducible refine w_bind (pick_t _ _) ?_
        | with_reducible refine w_bind (pick_f _ _) ?_
        | with_reducible refine w_bind gV_tt ?_
        | with_reducible refine w_bind gV_ff ?_
        | with_reducible refine w_bind gV_tf ?_
        | with_reducible refine w_bind gV_ft ?_
        | with_reducible refine w_bind gB_tf ?_
        | with_reducible refine w_bind gB_ft ?_
        | with_reducible refine w_gE_tf ?_
        | with_reducible refine w_gE_ft ?_
        | with_reducible refine w_gE_tt ?_
        | with_reducible refine w_gE_ff ?_
        | with_reducible refine w_onK_tf ?_
        | with_reducible refine w_onK_ft ?_
        | with_reducible refine w_onK_tt ?_
        | with_reducible refine w_onK_ff ?_
        | with_reducible refine w_gld_tt ?_
        | with_reducible refine w_gld_ff ?_
        | with_reducible refine w_gld_tf ?_
        | with_reducible refine w_gld_ft ?_
        | with_reducible refine w_gldN_tt ?_
        | with_reducible refine w_gldN_ff ?_
        | with_reducible refine w_gldN_tf ?_
        | with_reducible refine w_gldN_ft ?_
        | with_reducible refine w_gB_tt ?_
        | with_reducible refine w_gB_ff ?_
        | with_reducible refine w_bind un_not ?_
        | with_reducible refine w_cond_t ?_
        | with_reducible refine w_cond_f ?_
        | with_reducible refine w_bind gV_u ?_
        | with_reducible refine w_bind gB_u ?_
        | with_reducible refine w_gld_u ?_)
      refine w_bind (bin_add_i (by omega) (by omega)) ?_
      have e : partsOf l[j] = 1 := by unfold partsOf; rw [if_neg h5]
      rw [e] at next
      exact next
theorem r27_parts [L : Ls P v ll] (c : Cfg) (hn : ll.length ≤ 6) (hs : sumL ll ≤ 60) : Sp n_r27_Parts [.agg (planV c v).toArray] P (fun _ : Unit => vi (partsN ll)) (fun _ => P) := by
  refine sp_of fun R H h => ?_
  obtain ⟨us, hvl, r1, r2⟩ := L.out
  have hp := partsN_le ll
  refine wp_of (fun r => r27_Parts_of _ H) ?_
  refine w_newC h fun b H1 h1 => ?_
  refine wp_eq (r27_Parts_k0_eq _ _ _ H1) ?_
  refine wp_eq (r27_Parts_k2_eq _ _ _ _ H1) ?_
  have loop : ∀ (d i n : Nat) (H : AH), i + d = ll.length → n + partsN (ll.drop i) = partsN ll → Holds (blk b (.cells false (planV c v)) * P * R) H → wp (r27_Parts_k4 (vp b) (vi 0) (vi n) (vi i) H) fun v' H' => ∃ x : Unit, v' = vi (partsN ll) ∧ Holds (P * R) H' := by
    intro d
    induction d with
    | zero =>
      intro i n H hi hn h
      refine wp_eq (r27_Parts_k4_eq _ _ _ _ H) ?_
      refine w_ld h end_f0 rfl ?_
      refine w_rlen (l := us) h ?_
      refine w_bind (lss_f (by omega)) ?_
      repeat (first
        | with_reducible refine w_bind (pick_t _ _) ?_
        | with_reducible refine w_bind (pick_f _ _) ?_
        | with_reducible refine w_bind gV_tt ?_
        | with_reducible refine w_bind gV_ff ?_
        | with_reducible refine w_bind gV_tf ?_
        | with_reducible refine w_bind gV_ft ?_
        | with_reducible refine w_bind gB_tf ?_
        | with_reducible refine w_bind gB_ft ?_
        | with_reducible refine w_gE_tf ?_
        | with_reducible refine w_gE_ft ?_
        | with_reducible refine w_gE_tt ?_
        | with_reducible refine w_gE_ff ?_
        | with_reducible refine w_onK_tf ?_
        | with_reducible refine w_onK_ft ?_
        | with_reducible refine w_onK_tt ?_
        | with_reducible refine w_onK_ff ?_
        | with_reducible refine w_gld_tt ?_
        | with_reducible refine w_gld_ff ?_
        | with_reducible refine w_gld_tf ?_
        | with_reducible refine w_gld_ft ?_
        | with_reducible refine w_gldN_tt ?_
        | with_reducible refine w_gldN_ff ?_
        | with_reducible refine w_gldN_tf ?_
        | with_reducible refine w_gldN_ft ?_
        | with_reducible refine w_gB_tt ?_
        | with_reducible refine w_gB_ff ?_
        | with_reducible refine w_bind un_not ?_
        | with_reducible refine w_cond_t ?_
        | with_reducible refine w_cond_f ?_
        | with_reducible refine w_bind gV_u ?_
        | with_reducible refine w_bind gB_u ?_
        | with_reducible refine w_gld_u ?_)
      refine wp_eq (r27_Parts_e3_0_eq _ _ H) ?_
      refine wp_eq (r27_Parts_k1_eq _ _ H) ?_
      have e : ll.drop i = [] := List.drop_eq_nil_of_le (by omega)
      have e2 : n = partsN ll := by rw [← hn, e]; rfl
      rw [e2]
      exact w_ret ⟨(), rfl, h.to⟩
    | succ d ih =>
      intro i n H hi hn h
      have hiv : i < us.length := by omega
      have hil : i < ll.length := by omega
      have hd := partsN_drop hil
      have hle := sumL_mem hil
      refine wp_eq (r27_Parts_k4_eq _ _ _ _ H) ?_
      refine w_ld h end_f0 rfl ?_
      refine w_rlen (l := us) h ?_
      refine w_bind (lss_t (by omega)) ?_
      repeat (first
        | with_reducible refine w_bind (pick_t _ _) ?_
        | with_reducible refine w_bind (pick_f _ _) ?_
        | with_reducible refine w_bind gV_tt ?_
        | with_reducible refine w_bind gV_ff ?_
        | with_reducible refine w_bind gV_tf ?_
        | with_reducible refine w_bind gV_ft ?_
        | with_reducible refine w_bind gB_tf ?_
        | with_reducible refine w_bind gB_ft ?_
        | with_reducible refine w_gE_tf ?_
        | with_reducible refine w_gE_ft ?_
        | with_reducible refine w_gE_tt ?_
        | with_reducible refine w_gE_ff ?_
        | with_reducible refine w_onK_tf ?_
        | with_reducible refine w_onK_ft ?_
        | with_reducible refine w_onK_tt ?_
        | with_reducible refine w_onK_ff ?_
        | with_reducible refine w_gld_tt ?_
        | with_reducible refine w_gld_ff ?_
        | with_reducible refine w_gld_tf ?_
        | with_reducible refine w_gld_ft ?_
        | with_reducible refine w_gldN_tt ?_
        | with_reducible refine w_gldN_ff ?_
        | with_reducible refine w_gldN_tf ?_
        | with_reducible refine w_gldN_ft ?_
        | with_reducible refine w_gB_tt ?_
        | with_reducible refine w_gB_ff ?_
        | with_reducible refine w_bind un_not ?_
        | with_reducible refine w_cond_t ?_
        | with_reducible refine w_cond_f ?_
        | with_reducible refine w_bind gV_u ?_
        | with_reducible refine w_bind gB_u ?_
        | with_reducible refine w_gld_u ?_)
      refine wp_eq (r27_Parts_k5_eq _ _ _ _ H) ?_
      refine wp_eq (r27_Parts_k9_eq _ _ _ _ _ H) ?_
      refine r27_inner_parts b i c r1 hiv (r2 i hiv hil) (vi 0) (by omega) ll[i].length 0 n H (by omega) (by rw [List.drop_zero]; omega) h (fun H' h' => ?_)
      rw [List.drop_zero]
      refine wp_eq (r27_Parts_k6_eq _ _ _ _ H') ?_
      refine w_bind (bin_add_i (by omega) (by omega)) ?_
      exact ih (i + 1) (n + pl ll[i]) H' (by omega) (by omega) h'
  refine loop ll.length 0 0 H1 (by omega) (by rw [List.drop_zero]; omega) ?_
  rw [sep_assoc]
  exact h1

/-! ### The number that is told ahead -/
def boundN (c : Cfg) (ll : List (List Cl)) : Int := 16 * ((partsN ll : Int) + 1 + sumL ll) * (c.wk + 1) * (c.sl + c.sh + 40)
def boundB (c : Cfg) (ll : List (List Cl)) : Int := if mayB c ll then boundN c ll else 0
theorem mul_bd {a b m n : Int} (a0 : 0 ≤ a) (am : a ≤ m) (b0 : 0 ≤ b) (bn : b ≤ n) : 0 ≤ a * b ∧ a * b ≤ m * n :=
  ⟨Int.mul_nonneg a0 b0, Int.mul_le_mul am bn b0 (Int.le_trans a0 am)⟩
theorem bounds {c : Cfg} {n : Nat} (hc : rightB c = true) (hn : n ≤ 2000) :
    (0 ≤ 16 * (n : Int) ∧ 16 * (n : Int) ≤ 32000) ∧ (0 ≤ 16 * (n : Int) * (c.wk + 1) ∧ 16 * (n : Int) * (c.wk + 1) ≤ 32000 * 7) ∧ (0 ≤ 16 * (n : Int) * (c.wk + 1) * (c.sl + c.sh + 40) ∧ 16 * (n : Int) * (c.wk + 1) * (c.sl + c.sh + 40) ≤ 32000 * 7 * 48) := by
  have hc := rightB_iff.1 hc
  have h1 : 0 ≤ 16 * (n : Int) ∧ 16 * (n : Int) ≤ 32000 := by omega
  have h2 := mul_bd h1.1 h1.2 (by omega : 0 ≤ c.wk + 1) (by omega : c.wk + 1 ≤ 7)
  have h3 := mul_bd h2.1 h2.2 (by omega : 0 ≤ c.sl + c.sh + 40) (by omega : c.sl + c.sh + 40 ≤ 48)
  exact ⟨h1, h2, h3⟩
theorem pace_bound [L : Ls P v ll] (c : Cfg) (hn : (ll.length : Int) < 9223372036854775808) (hb : ll.length ≤ 6 → ∀ l ∈ ll, l.length ≤ 140737488355328) :
    Sp n_pace_Bound [.agg (planV c v).toArray] P (fun _ : Unit => vi (boundB c ll)) (fun _ => P) := by
  refine sp_of fun R H h => ?_
  obtain ⟨us, hvl, r1, r2⟩ := L.out
  refine wp_of (fun r => pace_Bound_of _ H) ?_
  refine w_newC h fun b H1 h1 => ?_
  refine w_LdN h1 ?_
  refine w_rox h1 (world_new (v := v) (ll := ll) c hn hb) fun x H2 h2 => ?_
  refine w_bind (v := x) rfl ?_
  refine w_bind (v := vi (if mayB c ll then 0 else 1)) rfl ?_
  unfold boundB
  cases hm : mayB c ll with
  | false =>
    simp only [Bool.false_eq_true, if_false]
    refine w_bind (neq_t (by omega)) ?_
    repeat (first
      | with_reducible refine w_bind (pick_t _ _) ?_
      | with_reducible refine w_bind (pick_f _ _) ?_
      | with_reducible refine w_bind gV_tt ?_
      | with_reducible refine w_bind gV_ff ?_
      | with_reducible refine w_bind gV_tf ?_
      | with_reducible refine w_bind gV_ft ?_
      | with_reducible refine w_bind gB_tf ?_
      | with_reducible refine w_bind gB_ft ?_
      | with_reducible refine w_gE_tf ?_
      | with_reducible refine w_gE_ft ?_
      | with_reducible refine w_gE_tt ?_
      | with_reducible refine w_gE_ff ?_
      | with_reducible refine w_onK_tf ?_
      | with_reducible refine w_onK_ft ?_
      | with_reducible refine w_onK_tt ?_
      | with_reducible refine w_onK_ff ?_
      | with_reducible refine w_gld_tt ?_
      | with_reducible refine w_gld_ff ?_
      | with_reducible refine w_gld_tf ?_
      | with_reducible refine w_gld_ft ?_
      | with_reducible refine w_gldN_tt ?_
      | with_reducible refine w_gldN_ff ?_
      | with_reducible refine w_gldN_tf ?_
      | with_reducible refine w_gldN_ft ?_
      | with_reducible refine w_gB_tt ?_
      | with_reducible refine w_gB_ff ?_
      | with_reducible refine w_bind un_not ?_
      | with_reducible refine w_cond_t ?_
      | with_reducible refine w_cond_f ?_
      | with_reducible refine w_bind gV_u ?_
      | with_reducible refine w_bind gB_u ?_
      | with_reducible refine w_gld_u ?_)
    exact w_ret ⟨(), rfl, h2.to⟩
  | true =>
    simp only [if_true]
    refine w_bind (neq_f rfl) ?_
    repeat (first
      | with_reducible refine w_bind (pick_t _ _) ?_
      | with_reducible refine w_bind (pick_f _ _) ?_
      | with_reducible refine w_bind gV_tt ?_
      | with_reducible refine w_bind gV_ff ?_
      | with_reducible refine w_bind gV_tf ?_
      | with_reducible refine w_bind gV_ft ?_
      | with_reducible refine w_bind gB_tf ?_
      | with_reducible refine w_bind gB_ft ?_
      | with_reducible refine w_gE_tf ?_
      | with_reducible refine w_gE_ft ?_
      | with_reducible refine w_gE_tt ?_
      | with_reducible refine w_gE_ff ?_
      | with_reducible refine w_onK_tf ?_
      | with_reducible refine w_onK_ft ?_
      | with_reducible refine w_onK_tt ?_
      | with_reducible refine w_onK_ff ?_
      | with_reducible refine w_gld_tt ?_
      | with_reducible refine w_gld_ff ?_
      | with_reducible refine w_gld_tf ?_
      | with_reducible refine w_gld_ft ?_
      | with_reducible refine w_gldN_tt ?_
      | with_reducible refine w_gldN_ff ?_
      | with_reducible refine w_gldN_tf ?_
      | with_reducible refine w_gldN_ft ?_
      | with_reducible refine w_gB_tt ?_
      | with_reducible refine w_gB_ff ?_
      | with_reducible refine w_bind un_not ?_
      | with_reducible refine w_cond_t ?_
      | with_reducible refine w_cond_f ?_
      | with_reducible refine w_bind gV_u ?_
      | with_reducible refine w_bind gB_u ?_
      | with_reducible refine w_gld_u ?_)
    obtain ⟨hc, hlw, hs⟩ := mayB_iff.1 hm
    have hc' := rightB_iff.1 hc
    have hp := partsN_le ll
    refine w_LdN h2 ?_
    refine w_rox h2 (pace_parts (v := v) (ll := ll) c hn hb) fun _ H3 h3 => ?_
    rw [hm]
    simp only [if_true]
    refine w_bind (bin_add_i (by omega) (by omega)) ?_
    refine wp_eq (pace_Bound_k0_eq _ _ _ H3) ?_
    refine w_ld h3 end_f0 rfl ?_
    refine w_rlen (l := us) h3 ?_
    refine wp_eq (pace_Bound_k11_eq _ _ _ _ _ _ H3) ?_
    have loop : ∀ (d i n : Nat), i + d = ll.length → n + sumL (ll.drop i) = partsN ll + 1 + sumL ll → wp (pace_Bound_k13 (vp b) (vi 0) (vi n) v (vi us.length) (vi i) H3) fun v' H' => ∃ x : Unit, v' = vi (boundN c ll) ∧ Holds (P * R) H' := by
      intro d
      induction d with
      | zero =>
        intro i n hi hn'
        refine wp_eq (pace_Bound_k13_eq _ _ _ _ _ _ H3) ?_
        refine w_bind (lss_f (by omega)) ?_
        repeat (first
          | with_reducible refine w_bind (pick_t _ _) ?_
          | with_reducible refine w_bind (pick_f _ _) ?_
          | with_reducible refine w_bind gV_tt ?_
          | with_reducible refine w_bind gV_ff ?_
          | with_reducible refine w_bind gV_tf ?_
          | with_reducible refine w_bind gV_ft ?_
          | with_reducible refine w_bind gB_tf ?_
          | with_reducible refine w_bind gB_ft ?_
          | with_reducible refine w_gE_tf ?_
          | with_reducible refine w_gE_ft ?_
          | with_reducible refine w_gE_tt ?_
          | with_reducible refine w_gE_ff ?_
          | with_reducible refine w_onK_tf ?_
          | with_reducible refine w_onK_ft ?_
          | with_reducible refine w_onK_tt ?_
          | with_reducible refine w_onK_ff ?_
          | with_reducible refine w_gld_tt ?_
          | with_reducible refine w_gld_ff ?_
          | with_reducible refine w_gld_tf ?_
          | with_reducible refine w_gld_ft ?_
          | with_reducible refine w_gldN_tt ?_
          | with_reducible refine w_gldN_ff ?_
          | with_reducible refine w_gldN_tf ?_
          | with_reducible refine w_gldN_ft ?_
          | with_reducible refine w_gB_tt ?_
          | with_reducible refine w_gB_ff ?_
          | with_reducible refine w_bind un_not ?_
          | with_reducible refine w_cond_t ?_
          | with_reducible refine w_cond_f ?_
          | with_reducible refine w_bind gV_u ?_
          | with_reducible refine w_bind gB_u ?_
          | with_reducible refine w_gld_u ?_)
        refine wp_eq (pace_Bound_e12_0_eq _ _ _ H3) ?_
        refine wp_eq (pace_Bound_k1_eq _ _ _ H3) ?_
        have e : ll.drop i = [] := List.drop_eq_nil_of_le (by omega)
        have e2 : n = partsN ll + 1 + sumL ll := by rw [← hn', e]; rfl
        have hbd := bounds (c := c) (n := n) hc (by omega)
        refine w_bind (bin_mul_i (by omega) (by omega)) ?_
        refine w_ld h3 (end_f (end_f end_nil)) rfl ?_
        refine w_bind (bin_add_i (by omega) (by omega)) ?_
        refine w_bind (bin_mul_i (by omega) (by omega)) ?_
        refine w_ld h3 (end_f (end_f end_nil)) rfl ?_
        refine w_ld h3 (end_f (end_f end_nil)) rfl ?_
        refine w_bind (bin_add_i (by omega) (by omega)) ?_
        refine w_bind (bin_add_i (by omega) (by omega)) ?_
        refine w_bind (bin_mul_i (by omega) (by omega)) ?_
        have e3 : 16 * (n : Int) * (c.wk + 1) * (c.sl + c.sh + 40) = boundN c ll := by
          unfold boundN
          rw [e2]
          simp only [Int.natCast_add, Int.natCast_one]
        rw [e3]
        exact w_ret ⟨(), rfl, h3.to⟩
      | succ d ih =>
        intro i n hi hn'
        have hiv : i < us.length := by omega
        have hil : i < ll.length := by omega
        haveI := r2 i hiv hil
        have hd := sumL_drop hil
        refine wp_eq (pace_Bound_k13_eq _ _ _ _ _ _ H3) ?_
        refine w_bind (lss_t (by omega)) ?_
        repeat (first
          | with_reducible refine w_bind (pick_t _ _) ?_
          | with_reducible refine w_bind (pick_f _ _) ?_
          | with_reducible refine w_bind gV_tt ?_
          | with_reducible refine w_bind gV_ff ?_
          | with_reducible refine w_bind gV_tf ?_
          | with_reducible refine w_bind gV_ft ?_
          | with_reducible refine w_bind gB_tf ?_
          | with_reducible refine w_bind gB_ft ?_
          | with_reducible refine w_gE_tf ?_
          | with_reducible refine w_gE_ft ?_
          | with_reducible refine w_gE_tt ?_
          | with_reducible refine w_gE_ff ?_
          | with_reducible refine w_onK_tf ?_
          | with_reducible refine w_onK_ft ?_
          | with_reducible refine w_onK_tt ?_
          | with_reducible refine w_onK_ff ?_
          | with_reducible refine w_gld_tt ?_
          | with_reducible refine w_gld_ff ?_
          | with_reducible refine w_gld_tf ?_
          | with_reducible refine w_gld_ft ?_
          | with_reducible refine w_gldN_tt ?_
          | with_reducible refine w_gldN_ff ?_
          | with_reducible refine w_gldN_tf ?_
          | with_reducible refine w_gldN_ft ?_
          | with_reducible refine w_gB_tt ?_
          | with_reducible refine w_gB_ff ?_
          | with_reducible refine w_bind un_not ?_
          | with_reducible refine w_cond_t ?_
          | with_reducible refine w_cond_f ?_
          | with_reducible refine w_bind gV_u ?_
          | with_reducible refine w_bind gB_u ?_
          | with_reducible refine w_gld_u ?_)
        refine wp_eq (pace_Bound_k14_eq _ _ _ _ _ _ H3) ?_
        refine w_rld1 (l := us) h3 hiv rfl ?_
        refine w_rlen (l := ll[i]) h3 ?_
        refine w_bind (bin_add_i (by omega) (by omega)) ?_
        refine wp_eq (pace_Bound_k15_eq _ _ _ _ _ _ H3) ?_
        refine w_bind (bin_add_i (by omega) (by omega)) ?_
        rw [show ((n : Nat) : Int) + ((ll[i].length : Nat) : Int) = ((n + ll[i].length : Nat) : Int) from by omega]
        exact ih (i + 1) (n + ll[i].length) (by omega) (by omega)
    exact loop ll.length 0 (partsN ll + 1) (by omega) (by rw [List.drop_zero])
theorem r27_bound [L : Ls P v ll] (c : Cfg) (hb : ∀ l ∈ ll, l.length ≤ 140737488355328) : Sp n_r27_Bound [.agg (planV c v).toArray] P (fun _ : Unit => vi (boundB c ll)) (fun _ => P) := by
  refine sp_of fun R H h => ?_
  refine wp_of (fun r => r27_Bound_of _ H) ?_
  refine w_newC h fun b H1 h1 => ?_
  refine w_LdN h1 ?_
  refine w_ro h1 (r16_may (v := v) (ll := ll) c hb) fun H2 h2 => ?_
  unfold boundB
  cases hm : mayB c ll with
  | false =>
    repeat (first
      | with_reducible refine w_bind (pick_t _ _) ?_
      | with_reducible refine w_bind (pick_f _ _) ?_
      | with_reducible refine w_bind gV_tt ?_
      | with_reducible refine w_bind gV_ff ?_
      | with_reducible refine w_bind gV_tf ?_
      | with_reducible refine w_bind gV_ft ?_
      | with_reducible refine w_bind gB_tf ?_
      | with_reducible refine w_bind gB_ft ?_
      | with_reducible refine w_gE_tf ?_
      | with_reducible refine w_gE_ft ?_
      | with_reducible refine w_gE_tt ?_
      | with_reducible refine w_gE_ff ?_
      | with_reducible refine w_onK_tf ?_
      | with_reducible refine w_onK_ft ?_
      | with_reducible refine w_onK_tt ?_
      | with_reducible refine w_onK_ff ?_
      | with_reducible refine w_gld_tt ?_
      | with_reducible refine w_gld_ff ?_
      | with_reducible refine w_gld_tf ?_
      | with_reducible refine w_gld_ft ?_
      | with_reducible refine w_gldN_tt ?_
      | with_reducible refine w_gldN_ff ?_
      | with_reducible refine w_gldN_tf ?_
      | with_reducible refine w_gldN_ft ?_
      | with_reducible refine w_gB_tt ?_
      | with_reducible refine w_gB_ff ?_
      | with_reducible refine w_bind un_not ?_
      | with_reducible refine w_cond_t ?_
      | with_reducible refine w_cond_f ?_
      | with_reducible refine w_bind gV_u ?_
      | with_reducible refine w_bind gB_u ?_
      | with_reducible refine w_gld_u ?_)
    rw [Bool.not_false]
    repeat (first
      | with_reducible refine w_bind (pick_t _ _) ?_
      | with_reducible refine w_bind (pick_f _ _) ?_
      | with_reducible refine w_bind gV_tt ?_
      | with_reducible refine w_bind gV_ff ?_
      | with_reducible refine w_bind gV_tf ?_
      | with_reducible refine w_bind gV_ft ?_
      | with_reducible refine w_bind gB_tf ?_
      | with_reducible refine w_bind gB_ft ?_
      | with_reducible refine w_gE_tf ?_
      | with_reducible refine w_gE_ft ?_
      | with_reducible refine w_gE_tt ?_
      | with_reducible refine w_gE_ff ?_
      | with_reducible refine w_onK_tf ?_
      | with_reducible refine w_onK_ft ?_
      | with_reducible refine w_onK_tt ?_
      | with_reducible refine w_onK_ff ?_
      | with_reducible refine w_gld_tt ?_
      | with_reducible refine w_gld_ff ?_
      | with_reducible refine w_gld_tf ?_
      | with_reducible refine w_gld_ft ?_
      | with_reducible refine w_gldN_tt ?_
      | with_reducible refine w_gldN_ff ?_
      | with_reducible refine w_gldN_tf ?_
      | with_reducible refine w_gldN_ft ?_
      | with_reducible refine w_gB_tt ?_
      | with_reducible refine w_gB_ff ?_
      | with_reducible refine w_bind un_not ?_
      | with_reducible refine w_cond_t ?_
      | with_reducible refine w_cond_f ?_
      | with_reducible refine w_bind gV_u ?_
      | with_reducible refine w_bind gB_u ?_
      | with_reducible refine w_gld_u ?_)
    simp only [Bool.false_eq_true, if_false]
    exact w_ret ⟨(), rfl, h2.to⟩
  | true =>
    repeat (first
      | with_reducible refine w_bind (pick_t _ _) ?_
      | with_reducible refine w_bind (pick_f _ _) ?_
      | with_reducible refine w_bind gV_tt ?_
      | with_reducible refine w_bind gV_ff ?_
      | with_reducible refine w_bind gV_tf ?_
      | with_reducible refine w_bind gV_ft ?_
      | with_reducible refine w_bind gB_tf ?_
      | with_reducible refine w_bind gB_ft ?_
      | with_reducible refine w_gE_tf ?_
      | with_reducible refine w_gE_ft ?_
      | with_reducible refine w_gE_tt ?_
      | with_reducible refine w_gE_ff ?_
      | with_reducible refine w_onK_tf ?_
      | with_reducible refine w_onK_ft ?_
      | with_reducible refine w_onK_tt ?_
      | with_reducible refine w_onK_ff ?_
      | with_reducible refine w_gld_tt ?_
      | with_reducible refine w_gld_ff ?_
      | with_reducible refine w_gld_tf ?_
      | with_reducible refine w_gld_ft ?_
      | with_reducible refine w_gldN_tt ?_
      | with_reducible refine w_gldN_ff ?_
      | with_reducible refine w_gldN_tf ?_
      | with_reducible refine w_gldN_ft ?_
      | with_reducible refine w_gB_tt ?_
      | with_reducible refine w_gB_ff ?_
      | with_reducible refine w_bind un_not ?_
      | with_reducible refine w_cond_t ?_
      | with_reducible refine w_cond_f ?_
      | with_reducible refine w_bind gV_u ?_
      | with_reducible refine w_bind gB_u ?_
      | with_reducible refine w_gld_u ?_)
    rw [Bool.not_true]
    repeat (first
      | with_reducible refine w_bind (pick_t _ _) ?_
      | with_reducible refine w_bind (pick_f _ _) ?_
      | with_reducible refine w_bind gV_tt ?_
      | with_reducible refine w_bind gV_ff ?_
      | with_reducible refine w_bind gV_tf ?_
      | with_reducible refine w_bind gV_ft ?_
      | with_reducible refine w_bind gB_tf ?_
      | with_reducible refine w_bind gB_ft ?_
      | with_reducible refine w_gE_tf ?_
      | with_reducible refine w_gE_ft ?_
      | with_reducible refine w_gE_tt ?_
      | with_reducible refine w_gE_ff ?_
      | with_reducible refine w_onK_tf ?_
      | with_reducible refine w_onK_ft ?_
      | with_reducible refine w_onK_tt ?_
      | with_reducible refine w_onK_ff ?_
      | with_reducible refine w_gld_tt ?_
      | with_reducible refine w_gld_ff ?_
      | with_reducible refine w_gld_tf ?_
      | with_reducible refine w_gld_ft ?_
      | with_reducible refine w_gldN_tt ?_
      | with_reducible refine w_gldN_ff ?_
      | with_reducible refine w_gldN_tf ?_
      | with_reducible refine w_gldN_ft ?_
      | with_reducible refine w_gB_tt ?_
      | with_reducible refine w_gB_ff ?_
      | with_reducible refine w_bind un_not ?_
      | with_reducible refine w_cond_t ?_
      | with_reducible refine w_cond_f ?_
      | with_reducible refine w_bind gV_u ?_
      | with_reducible refine w_bind gB_u ?_
      | with_reducible refine w_gld_u ?_)
    simp only [if_true]
    obtain ⟨hc, hlw, hs⟩ := mayB_iff.1 hm
    have hc' := rightB_iff.1 hc
    have hp := partsN_le ll
    refine w_ldN h2 end_f0 ?_
    refine w_new h2 fun b2 H3 h3 => ?_
    refine w_St h3 rfl rfl fun H4 h4 => ?_
    refine w_LdN h4 ?_
    refine w_ro h4 (r16_calls (v := v) (ll := ll) c (by omega) (by omega)) fun H5 h5 => ?_
    refine w_LdN h5 ?_
    refine w_eqN h4 h5 rfl ?_
    refine w_ro h5 (r27_parts (v := v) (ll := ll) c (by omega) hs) fun H6 h6 => ?_
    refine w_bind (bin_add_i (by omega) (by omega)) ?_
    refine w_bind (bin_add_i (by omega) (by omega)) ?_
    have hbd := bounds (c := c) (n := partsN ll + 1 + sumL ll) hc (by omega)
    have e0 : ((sumL ll : Nat) : Int) + ((partsN ll : Nat) : Int) + 1 = ((partsN ll + 1 + sumL ll : Nat) : Int) := by omega
    rw [e0]
    refine w_bind (bin_mul_i (by omega) (by omega)) ?_
    refine w_ad end_f0 ?_
    refine w_Ld1 h6 rfl ?_
    refine w_eq1 h4 h6 rfl ?_
    refine w_eq1 h5 h6 rfl ?_
    refine w_bind (bin_add_i (by omega) (by omega)) ?_
    refine w_bind (bin_mul_i (by omega) (by omega)) ?_
    refine w_ad end_f0 ?_
    refine w_Ld1 h6 rfl ?_
    refine w_eq1 h4 h6 rfl ?_
    refine w_eq1 h5 h6 rfl ?_
    refine w_ad end_f0 ?_
    refine w_Ld1 h6 rfl ?_
    refine w_eq1 h4 h6 rfl ?_
    refine w_eq1 h5 h6 rfl ?_
    refine w_bind (bin_add_i (by omega) (by omega)) ?_
    refine w_bind (bin_add_i (by omega) (by omega)) ?_
    refine w_bind (bin_mul_i (by omega) (by omega)) ?_
    have e3 : 16 * ((partsN ll + 1 + sumL ll : Nat) : Int) * (c.wk + 1) * (c.sl + c.sh + 40) = boundN c ll := by
      unfold boundN
      simp only [Int.natCast_add, Int.natCast_one]
    rw [e3]
    exact w_ret ⟨(), rfl, h6.to⟩
end
end Go.Proofs.YtbjelopcelompaaGreatDoor.Gst
