/- Whether a plan and picks may be encoded: of the program. -/
import Derived.Test.YthagelbepgcolaaGreatDoorDcc
namespace Go.Proofs.YthagelbepgcolaaGreatDoor.Gst
open Go Go.RowKit
set_option linter.unusedSimpArgs false
set_option linter.unusedVariables false
set_option maxHeartbeats 1000000

def nthI (x : Cl) (i : Nat) : Int := match i with
  | 0 => x.op
  | 1 => x.flow
  | 2 => x.a
  | _ => x.b
theorem idx4 (x : Cl) (i : Nat) (h : i < 4) : pIndexV 4 none 1 (.agg (Cl.cells x).toArray) (vi i) = some (vi (nthI x i)) := by
  match i, h with
  | 0, _ => rfl
  | 1, _ => rfl
  | 2, _ => rfl
  | 3, _ => rfl
theorem numbers_law (x : Cl) : Sp n_script_numbers [.agg (Cl.cells x).toArray] emp (fun _ : Unit => .agg (Cl.cells x).toArray) (fun _ => emp) := by
  refine sp_of fun R H h => ?_
  refine wp_of (fun r => script_numbers_of _ H) ?_
  refine w_newC h fun b H1 h1 => ?_
  refine w_new h1 fun b2 H2 h2 => ?_
  refine w_ld h2 end_f0 rfl ?_
  refine w_ld h2 end_f0 rfl ?_
  refine w_ld h2 end_f0 rfl ?_
  refine w_ld h2 end_f0 rfl ?_
  refine w_mkA (cs := Cl.cells x) rfl ?_
  refine w_St h2 rfl rfl fun H3 h3 => ?_
  refine w_LdN h3 ?_
  exact w_ret ⟨(), rfl, h3.to⟩
theorem okCl_iff {x : Cl} : okCl x = true ↔ ∀ i, i < 4 → okI (nthI x i) = true := by
  unfold okCl
  simp only [Bool.and_eq_true]
  constructor
  · rintro ⟨⟨⟨h0, h1⟩, h2⟩, h3⟩ i hi
    match i, hi with
    | 0, _ => exact h0
    | 1, _ => exact h1
    | 2, _ => exact h2
    | 3, _ => exact h3
  · intro h
    exact ⟨⟨⟨h 0 (by omega), h 1 (by omega)⟩, h 2 (by omega)⟩, h 3 (by omega)⟩
section
variable {P R : SP} {v pv : Value} {ll : List (List Cl)} {pk : List Int}

theorem wp_imp {x : OV} {Q Q' : Value → AH → Prop} (f : ∀ v H, Q v H → Q' v H) (k : wp x Q) : wp x Q' := let ⟨v, H, e, q⟩ := k; ⟨v, H, e, f _ _ q⟩
theorem may_picks [r : Rd P pv 1 encI pk] (hk : pk.length ≤ 4000) (x4 : Value) : ∀ (d i : Nat) (H : AH), i + d = pk.length → (∀ j, (h : j < pk.length) → j < i → okP pk[j] = true) → Holds (P * R) H →
    wp (script_may_k5 x4 pv (vi pk.length) (vi i) H) fun v' H' => v' = vb (pk.all okP) ∧ Holds (P * R) H' := by
  intro d
  induction d with
  | zero =>
    intro i H hi ho h
    refine wp_eq (script_may_k5_eq _ _ _ _ H) ?_
    refine w_bind (lss_f (by omega)) ?_
    refine gs ?_
    refine wp_eq (script_may_e4_6_eq _ H) ?_
    refine wp_eq (script_may_k2_eq _ H) ?_
    have : pk.all okP = true := List.all_eq_true.2 fun x hx => by
      obtain ⟨j, hj, rfl⟩ := List.getElem_of_mem hx
      exact ho j hj (by omega)
    rw [this]
    exact w_ret ⟨rfl, h⟩
  | succ d ih =>
    intro i H hi ho h
    have hil : i < pk.length := by omega
    refine wp_eq (script_may_k5_eq _ _ _ _ H) ?_
    refine w_bind (lss_t (by omega)) ?_
    refine gs ?_
    refine wp_eq (script_may_k6_eq _ _ _ _ H) ?_
    refine w_rld1 (s := pv) (l := pk) h hil rfl ?_
    have bad : okP pk[i] = false → wp (some (vb false, H)) fun v' H' => v' = vb (pk.all okP) ∧ Holds (P * R) H' := by
      intro hb
      have : pk.all okP = false := by
        rw [List.all_eq_false]
        exact ⟨pk[i], List.getElem_mem hil, by rw [hb]; simp⟩
      rw [this]
      exact w_ret ⟨rfl, h⟩
    by_cases c1 : pk[i] < 0
    · refine w_bind (lss_t c1) ?_
      refine gs ?_
      exact bad (by unfold okP; exact decide_eq_false (by omega))
    · refine w_bind (lss_f c1) ?_
      refine gs ?_
      by_cases c2 : (63 : Int) < pk[i]
      · refine w_bind (gtr_t c2) ?_
        refine gs ?_
        exact bad (by unfold okP; exact decide_eq_false (by omega))
      · refine w_bind (gtr_f c2) ?_
        refine gs ?_
        refine wp_eq (script_may_k7_eq _ _ _ _ H) ?_
        refine w_bind (bin_add_i (by omega) (by omega)) ?_
        refine ih (i + 1) H (by omega) (fun j hj hji => ?_) h
        rcases Nat.lt_or_ge j i with h1 | h1
        · exact ho j hj h1
        · have : j = i := by omega
          subst this
          unfold okP; exact decide_eq_true (by omega)

/-- One call: its four numbers. -/
theorem may_call (x : Cl) (x1 x4 x28 x29 x30 x34 x35 x36 : Value) {X : SP} {Q : Value → AH → Prop} (hbad : ∀ H, okCl x = false → Holds X H → wp (some (vb false, H)) Q)
    (hok : ∀ H, okCl x = true → Holds X H → wp (script_may_k28 x1 x4 x28 x29 x30 x34 x35 x36 H) Q) : ∀ (d i : Nat) (H : AH), i + d = 4 → (∀ j, j < i → okI (nthI x j) = true) → Holds X H →
    wp (script_may_k33 x1 x4 x28 x29 x30 x34 x35 x36 (.agg (Cl.cells x).toArray) (vi i) H) Q := by
  intro d
  induction d with
  | zero =>
    intro i H hi ho h
    refine wp_eq (script_may_k33_eq _ _ _ _ _ _ _ _ _ _ H) ?_
    refine w_bind (lss_f (by omega)) ?_
    refine gs ?_
    refine wp_eq (script_may_e32_4_eq _ _ _ _ _ _ _ _ H) ?_
    exact hok H (okCl_iff.2 fun j hj => ho j (by omega)) h
  | succ d ih =>
    intro i H hi ho h
    have hi4 : i < 4 := by omega
    refine wp_eq (script_may_k33_eq _ _ _ _ _ _ _ _ _ _ H) ?_
    refine w_bind (lss_t (by omega)) ?_
    refine gs ?_
    refine wp_eq (script_may_k34_eq _ _ _ _ _ _ _ _ _ _ H) ?_
    refine w_bind (idx4 x i hi4) ?_
    have bad : okI (nthI x i) = false → wp (some (vb false, H)) Q := by
      intro hb
      refine hbad H ?_ h
      cases e : okCl x with
      | false => rfl
      | true => rw [okCl_iff.1 e i hi4] at hb; cases hb
    by_cases c1 : nthI x i < 0
    · refine w_bind (lss_t c1) ?_
      refine gs ?_
      exact bad (by unfold okI; exact decide_eq_false (by omega))
    · refine w_bind (lss_f c1) ?_
      refine gs ?_
      by_cases c2 : (2147483647 : Int) < nthI x i
      · refine w_bind (gtr_t c2) ?_
        refine gs ?_
        exact bad (by unfold okI; exact decide_eq_false (by omega))
      · refine w_bind (gtr_f c2) ?_
        refine gs ?_
        refine wp_eq (script_may_k35_eq _ _ _ _ _ _ _ _ _ _ H) ?_
        refine w_bind (bin_add_i (by omega) (by omega)) ?_
        refine ih (i + 1) H (by omega) (fun j hji => ?_) h
        rcases Nat.lt_or_ge j i with h1 | h1
        · exact ho j h1
        · have : j = i := by omega
          subst this
          unfold okI; exact decide_eq_true (by omega)
/-- One list. -/
theorem may_list {X : SP} {lv : Value} {l : List Cl} [r : Rd X lv 4 Cl.cells l] (hl : l.length ≤ 100) (x1 x4 x28 x29 x30 : Value) {Q : Value → AH → Prop} (hbad : ∀ H, l.all okCl = false → Holds X H → wp (some (vb false, H)) Q)
    (hok : ∀ H, l.all okCl = true → Holds X H → wp (script_may_k21 x1 x4 x28 x29 x30 H) Q) : ∀ (d i : Nat) (H : AH), i + d = l.length → (∀ j, (h : j < l.length) → j < i → okCl l[j] = true) → Holds X H →
    wp (script_may_k26 x1 x4 x28 x29 x30 lv (vi l.length) (vi i) H) Q := by
  intro d
  induction d with
  | zero =>
    intro i H hi ho h
    refine wp_eq (script_may_k26_eq _ _ _ _ _ _ _ _ H) ?_
    refine w_bind (lss_f (by omega)) ?_
    refine gs ?_
    refine wp_eq (script_may_e25_2_eq _ _ _ _ _ H) ?_
    refine hok H (List.all_eq_true.2 fun x hx => ?_) h
    obtain ⟨j, hj, rfl⟩ := List.getElem_of_mem hx
    exact ho j hj (by omega)
  | succ d ih =>
    intro i H hi ho h
    have hil : i < l.length := by omega
    refine wp_eq (script_may_k26_eq _ _ _ _ _ _ _ _ H) ?_
    refine w_bind (lss_t (by omega)) ?_
    refine gs ?_
    refine wp_eq (script_may_k27_eq _ _ _ _ _ _ _ _ H) ?_
    refine w_rldN (s := lv) (l := l) h hil ?_
    refine w_new h fun b1 H1 h1 => ?_
    refine w_St h1 rfl rfl fun H2 h2 => ?_
    refine w_LdN h2 ?_
    refine w_call h2 (numbers_law l[i]) fun _ H3 h3 => ?_
    refine wp_eq (script_may_k31_eq _ _ _ _ _ _ _ _ _ _ H3) ?_
    refine may_call l[i] _ _ _ _ _ _ _ _ (X := X) (fun H hb h => ?_) (fun H hb h => ?_) 4 0 H3 rfl (fun j hj => absurd hj (by omega)) h3.to
    · refine hbad H ?_ h
      rw [List.all_eq_false]
      exact ⟨l[i], List.getElem_mem hil, by rw [hb]; simp⟩
    · refine wp_eq (script_may_k28_eq _ _ _ _ _ _ _ _ H) ?_
      refine w_bind (bin_add_i (by omega) (by omega)) ?_
      refine ih (i + 1) H (by omega) (fun j hj hji => ?_) h
      rcases Nat.lt_or_ge j i with h1 | h1
      · exact ho j hj h1
      · have : j = i := by omega
        subst this
        exact hb
theorem mayB_sum {c : Cfg} (h : mayB c ll = true) : ll.length ≤ 6 ∧ sumL ll ≤ 60 ∧ rightB c = true := by
  unfold mayB at h
  simp only [Bool.and_eq_true, decide_eq_true_eq] at h
  have := rightB_iff.1 h.1
  exact ⟨by omega, h.2.2, h.1⟩
/-- **Whether they may be encoded.** -/
theorem script_may_law [L : Ls P v ll] [r : Rd P pv 1 encI pk] (c : Cfg) (hn : (ll.length : Int) < 9223372036854775808) (hb : ll.length ≤ 6 → ∀ l ∈ ll, l.length ≤ 140737488355328) :
    Sp n_script_may [.agg (planV c v).toArray, pv] P (fun _ : Unit => vb (okS c ll pk)) (fun _ => P) := by
  refine sp_of fun R H h => ?_
  obtain ⟨us, hvl, r1, r2⟩ := L.out
  refine wp_of (fun r => script_may_of _ _ H) ?_
  refine w_newC h fun b H1 h1 => ?_
  refine w_LdN h1 ?_
  refine w_call h1 (world_new (P := P) c hn hb) fun w H2 h2 => ?_
  refine w_bind (v := w) rfl ?_
  refine w_bind (v := vi (if mayB c ll then 0 else 1)) rfl ?_
  have no : okS c ll pk = false → wp (some (vb false, H2)) fun v' H' => ∃ _ : Unit, v' = vb (okS c ll pk) ∧ Holds (P * R) H' := by
    intro e
    rw [e]
    exact w_ret ⟨(), rfl, h2.to⟩
  cases hm : mayB c ll with
  | false =>
    rw [if_neg (by simp)]
    refine w_bind (neq_t (by omega)) ?_
    refine gs ?_
    exact no (by unfold okS; rw [hm]; rfl)
  | true =>
    rw [if_pos rfl]
    obtain ⟨m1, m2, m3⟩ := mayB_sum hm
    refine w_bind (neq_f rfl) ?_
    refine gs ?_
    refine w_rlenB (s := pv) (l := pk) h2 ?_
    by_cases hk : (4000 : Int) < pk.length
    · refine w_bind (gB_y (gtr_t hk)) ?_
      refine gs ?_
      exact no (by unfold okS; rw [decide_eq_false (by omega)]; simp)
    refine w_bind (gB_y (gtr_f hk)) ?_
    refine gs ?_
    refine wp_eq (script_may_k0_eq _ _ _ H2) ?_
    refine w_ld h2 end_f0 rfl ?_
    refine w_rlen (s := v) (l := us) h2 ?_
    refine wp_eq (script_may_k17_eq _ _ _ _ _ H2) ?_
    have hus : us.length ≤ 6 := by omega
    have outer : ∀ (d i : Nat) (H : AH), i + d = us.length → (∀ j, (h : j < ll.length) → j < i → (ll[j]).all okCl = true) → Holds (P * R) H →
        wp (script_may_k19 pv (vb false) v (vi us.length) (vi i) H) fun v' H' => ∃ _ : Unit, v' = vb (okS c ll pk) ∧ Holds (P * R) H' := by
      intro d
      induction d with
      | zero =>
        intro i H hi ho h
        refine wp_eq (script_may_k19_eq _ _ _ _ _ H) ?_
        refine w_bind (lss_f (by omega)) ?_
        refine gs ?_
        refine wp_eq (script_may_e18_0_eq _ _ H) ?_
        refine wp_eq (script_may_k1_eq _ _ H) ?_
        refine w_rlen (s := pv) (l := pk) h ?_
        refine wp_eq (script_may_k3_eq _ _ _ _ H) ?_
        refine wp_imp (fun v' H' hq => ?_) (may_picks (pk := pk) (by omega) _ pk.length 0 H (by omega) (fun j _ hj => absurd hj (by omega)) h)
        obtain ⟨rfl, hq⟩ := hq
        refine ⟨(), ?_, hq⟩
        have hall : ll.all (·.all okCl) = true := List.all_eq_true.2 fun l hl => by
          obtain ⟨j, hj, rfl⟩ := List.getElem_of_mem hl
          exact ho j hj (by omega)
        unfold okS
        rw [hm, hall, decide_eq_true (show pk.length ≤ 4000 by omega)]
        rfl
      | succ d ih =>
        intro i H hi ho h
        have hiu : i < us.length := by omega
        have hil : i < ll.length := by omega
        refine wp_eq (script_may_k19_eq _ _ _ _ _ H) ?_
        refine w_bind (lss_t (by omega)) ?_
        refine gs ?_
        refine wp_eq (script_may_k20_eq _ _ _ _ _ H) ?_
        refine w_rld1 (s := v) (l := us) h hiu rfl ?_
        haveI := r2 i hiu hil
        refine w_rlen (s := (us[i]).v) (l := ll[i]) h ?_
        refine wp_eq (script_may_k24_eq _ _ _ _ _ _ _ _ H) ?_
        have hl60 : ll[i].length ≤ 100 := by have := sumL_mem hil; omega
        refine may_list (X := P * R) (l := ll[i]) hl60 _ _ _ _ _ (fun H hb h => ?_) (fun H hb h => ?_) ll[i].length 0 H (by omega) (fun j _ hj => absurd hj (by omega)) h
        · have hall : ll.all (·.all okCl) = false := by
            rw [List.all_eq_false]
            exact ⟨ll[i], List.getElem_mem hil, by rw [hb]; simp⟩
          have e : okS c ll pk = false := by unfold okS; rw [hall]; simp
          rw [e]
          exact w_ret ⟨(), rfl, h⟩
        · refine wp_eq (script_may_k21_eq _ _ _ _ _ H) ?_
          refine w_bind (bin_add_i (by omega) (by omega)) ?_
          refine ih (i + 1) H (by omega) (fun j hj hji => ?_) h
          rcases Nat.lt_or_ge j i with h1 | h1
          · exact ho j hj h1
          · have : j = i := by omega
            subst this
            exact hb
    exact outer us.length 0 H2 (by omega) (fun j _ hj => absurd hj (by omega)) h2.to
end
end Go.Proofs.YthagelbepgcolaaGreatDoor.Gst
