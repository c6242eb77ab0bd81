/- Encode, of the reference. -/
import Derived.Test.YthagelbepgcolaaGreatDoorDcf
namespace Go.Proofs.YthagelbepgcolaaGreatDoor.Gst
open Go Go.RowKit
set_option linter.unusedSimpArgs false
set_option linter.unusedVariables false
set_option maxHeartbeats 1000000
theorem r30_small_law (n : Int) : Sp n_r30_small [vi n] emp (fun _ : Unit => vb (okI n)) (fun _ => emp) := by
  refine sp_of fun R H h => ?_
  refine wp_of (fun r => r30_small_of _ H) ?_
  by_cases c1 : 0 ≤ n
  · refine w_bind (geq_t c1) ?_
    refine gs ?_
    by_cases c2 : n < 2147483648
    · refine w_bind (lss_t c2) ?_
      refine gs ?_
      exact w_ret ⟨(), by unfold okI; rw [decide_eq_true (by omega)], h.to⟩
    · refine w_bind (lss_f c2) ?_
      refine gs ?_
      exact w_ret ⟨(), by unfold okI; rw [decide_eq_false (by omega)], h.to⟩
  · refine w_bind (geq_f c1) ?_
    refine gs ?_
    exact w_ret ⟨(), by unfold okI; rw [decide_eq_false (by omega)], h.to⟩
section
variable {P R X : SP} {v pv : Value} {ll : List (List Cl)} {pk : List Int} {c : Cfg}
/-- What comes of it in the end. -/
def REnd (X : SP) (ok : Bool) (T : List Nat) (v' : Value) (H' : AH) : Prop := ∃ s : Value, v' = .tuple #[s, vi (if ok then 0 else 1)] ∧ Holds ((if ok = true then ts 1 encB s T * X else pu (s = .slice none 0 0) * X)) H'
theorem renc_picks [r : Rd X pv 1 encI pk] {T : List Nat} {ok : Bool} (hT : T.length ≤ 90000) (hk : pk.length ≤ 4000) (hok : ok = pk.all okP) (x4 x5 : Value) : ∀ (d i : Nat) (s : Value) (l : List Nat) (H : AH), i + d = pk.length → (∀ j, (h : j < pk.length) → j < i → okP pk[j] = true) → l.length ≤ 20000 + 5 * i → (ok = true → l ++ (pk.drop i).flatMap encT = T) → Holds (ts 1 encB s l * X) H →
    wp (r30_Encode_k6 pv x4 x5 s (vi i) H) (REnd X ok T) := by
  intro d
  induction d with
  | zero =>
    intro i s l H hi ho hlen hl h
    refine wp_eq (r30_Encode_k6_eq _ _ _ _ _ H) ?_
    refine w_rlen (s := pv) (l := pk) h ?_
    refine w_bind (lss_f (by omega)) ?_
    refine gs ?_
    refine wp_eq (r30_Encode_e5_4_eq _ _ _ H) ?_
    refine wp_eq (r30_Encode_k3_eq _ _ _ H) ?_
    have hall : ok = true := by
      rw [hok]
      exact List.all_eq_true.2 fun x hx => by
        obtain ⟨j, hj, rfl⟩ := List.getElem_of_mem hx
        exact ho j hj (by omega)
    have hl := hl hall
    rw [List.drop_of_length_le (by omega), List.flatMap_nil, List.append_nil] at hl
    subst hl
    refine w_ret ⟨s, by rw [if_pos hall], ?_⟩
    rw [if_pos hall]
    exact h
  | succ d ih =>
    intro i s l H hi ho hlen hl h
    have hil : i < pk.length := by omega
    refine wp_eq (r30_Encode_k6_eq _ _ _ _ _ H) ?_
    refine w_rlen (s := pv) (l := pk) h ?_
    refine w_bind (lss_t (by omega)) ?_
    refine gs ?_
    refine wp_eq (r30_Encode_k7_eq _ _ _ _ _ H) ?_
    refine w_rld1 (s := pv) (l := pk) h hil rfl ?_
    have bad : okP pk[i] = false → wp (some (Value.tuple #[.slice none 0 0, vi 1], H)) (REnd X ok T) := by
      intro hb
      have hf : ok = false := by
        rw [hok, List.all_eq_false]
        exact ⟨pk[i], List.getElem_mem hil, by rw [hb]; simp⟩
      refine w_ret ⟨.slice none 0 0, by rw [hf]; rfl, ?_⟩
      rw [hf, if_neg (by simp), Holds.pu]
      exact ⟨rfl, h.to⟩
    by_cases c1 : pk[i] < 0
    · refine w_bind (lss_t c1) ?_
      refine gs ?_
      exact bad (by unfold okP; exact decide_eq_false (by omega))
    · refine w_bind (lss_f c1) ?_
      refine gs ?_
      refine w_rld1 (s := pv) (l := pk) h hil rfl ?_
      by_cases c2 : (63 : Int) < pk[i]
      · refine w_bind (gB_y (gtr_t c2)) ?_
        refine gs ?_
        exact bad (by unfold okP; exact decide_eq_false (by omega))
      · refine w_bind (gB_y (gtr_f c2)) ?_
        refine gs ?_
        refine w_rld1 (s := pv) (l := pk) h hil rfl ?_
        refine w_bind (conv_ui (by omega) (by omega)) ?_
        refine w_call h (r30_put_law s l pk[i].toNat (by omega) (by omega)) fun s' H1 h1 => ?_
        refine wp_eq (r30_Encode_k8_eq _ _ _ _ _ H1) ?_
        refine w_bind (bin_add_i (by omega) (by omega)) ?_
        refine ih (i + 1) s' (l ++ encN pk[i].toNat) H1 (by omega) (fun j hj hji => ?_) ?_ (fun e => ?_) h1.to
        · rcases Nat.lt_or_ge j i with h1 | h1
          · exact ho j hj h1
          · have : j = i := by omega
            subst this
            unfold okP; exact decide_eq_true (by omega)
        · have := encN_len5 (n := pk[i].toNat) (by omega)
          simp only [List.length_append]; omega
        · rw [← hl e, List.drop_eq_getElem_cons hil, List.flatMap_cons, List.append_assoc]

/-- One list of calls. -/
theorem renc_list {b6 : Nat} {us : List Sv} {i0 : Nat} [ru : Rd X v 1 encS us] (hiu : i0 < us.length) {cl : List Cl} [r : Rd X (us[i0]).v 4 Cl.cells cl] [hb6 : Hs X b6 (.cells false (planV c v))] {T rest : List Nat} {ok : Bool} (hT : T.length ≤ 90000) (hc : cl.length ≤ 100) (hbad : cl.all okCl = false → ok = false) (x1 x4 x5 : Value)
    (next : ∀ (s : Value) (l : List Nat) (H : AH), cl.all okCl = true → l.length ≤ 1000 + 2000 * i0 + 100 + 20 * cl.length → (ok = true → l ++ rest = T) → Holds (ts 1 encB s l * X) H → wp (r30_Encode_k30 x1 (vp b6) x4 x5 s (vi i0) H) (REnd X ok T)) :
    ∀ (d i : Nat) (s : Value) (l : List Nat) (H : AH), i + d = cl.length → (∀ j, (h : j < cl.length) → j < i → okCl cl[j] = true) → l.length ≤ 1000 + 2000 * i0 + 100 + 20 * i → i0 ≤ 10 → (ok = true → l ++ ((cl.drop i).flatMap encC ++ rest) = T) → Holds (ts 1 encB s l * X) H →
    wp (r30_Encode_k35 x1 (vp b6) x4 x5 s (vi i0) (vi i) H) (REnd X ok T) := by
  intro d
  induction d with
  | zero =>
    intro i s l H hi ho hlen hi10 hl h
    refine wp_eq (r30_Encode_k35_eq _ _ _ _ _ _ _ H) ?_
    refine w_ld h end_f0 rfl ?_
    refine w_rld1 (s := v) (l := us) h hiu rfl ?_
    refine w_rlen (s := (us[i0]).v) (l := cl) h ?_
    refine w_bind (lss_f (by omega)) ?_
    refine gs ?_
    refine wp_eq (r30_Encode_e34_2_eq _ _ _ _ _ _ H) ?_
    have hall : cl.all okCl = true := List.all_eq_true.2 fun x hx => by
      obtain ⟨j, hj, rfl⟩ := List.getElem_of_mem hx
      exact ho j hj (by omega)
    refine next s l H hall (by omega) (fun e => ?_) h
    have := hl e
    rwa [List.drop_of_length_le (by omega), List.flatMap_nil, List.nil_append] at this
  | succ d ih =>
    intro i s l H hi ho hlen hi10 hl h
    have hil : i < cl.length := by omega
    refine wp_eq (r30_Encode_k35_eq _ _ _ _ _ _ _ H) ?_
    refine w_ld h end_f0 rfl ?_
    refine w_rld1 (s := v) (l := us) h hiu rfl ?_
    refine w_rlen (s := (us[i0]).v) (l := cl) h ?_
    refine w_bind (lss_t (by omega)) ?_
    refine gs ?_
    refine wp_eq (r30_Encode_k36_eq _ _ _ _ _ _ _ H) ?_
    refine w_ld h end_f0 rfl ?_
    refine w_rld1 (s := v) (l := us) h hiu rfl ?_
    refine w_rldN (s := (us[i0]).v) (l := cl) h hil ?_
    refine w_new h fun b1 H1 h1 => ?_
    refine w_St h1 rfl rfl fun H2 h2 => ?_
    refine w_ld h2 end_f0 rfl ?_
    have bad : ∀ {H : AH} {Y : SP}, okCl cl[i] = false → Holds (Y * (ts 1 encB s l * X)) H → wp (some (Value.tuple #[.slice none 0 0, vi 1], H)) (REnd X ok T) := by
      intro H Y hb h
      have hf : ok = false := hbad (by
        rw [List.all_eq_false]
        exact ⟨cl[i], List.getElem_mem hil, by rw [hb]; simp⟩)
      refine w_ret ⟨.slice none 0 0, by rw [hf]; rfl, ?_⟩
      rw [hf, if_neg (by simp), Holds.pu]
      exact ⟨rfl, h.to⟩
    refine w_call h2 (r30_small_law _) fun _ H3 h3 => ?_
    cases e0 : okI cl[i].op with
    | false =>
      refine w_bind (un_not) ?_
      rw [Bool.not_false]
      refine gs ?_
      exact bad (Y := emp) (by unfold okCl; rw [e0]; rfl) h3.to
    | true =>
    refine w_bind (un_not) ?_
    rw [Bool.not_true]
    refine gs ?_
    refine w_ld h3 end_f0 rfl ?_
    refine gs ?_
    refine w_call h3 (r30_small_law _) fun _ H4 h4 => ?_
    cases e1 : okI cl[i].flow with
    | false =>
      refine w_bind (gB_y (un_not)) ?_
      rw [Bool.not_false]
      refine gs ?_
      exact bad (Y := emp) (by unfold okCl; rw [e0, e1]; rfl) h4.to
    | true =>
    refine w_bind (gB_y (un_not)) ?_
    rw [Bool.not_true]
    refine gs ?_
    refine w_ld h4 end_f0 rfl ?_
    refine gs ?_
    refine w_call h4 (r30_small_law _) fun _ H5 h5 => ?_
    cases e2 : okI cl[i].a with
    | false =>
      refine w_bind (gB_y (un_not)) ?_
      rw [Bool.not_false]
      refine gs ?_
      exact bad (Y := emp) (by unfold okCl; rw [e0, e1, e2]; rfl) h5.to
    | true =>
    refine w_bind (gB_y (un_not)) ?_
    rw [Bool.not_true]
    refine gs ?_
    refine w_ld h5 end_f0 rfl ?_
    refine gs ?_
    refine w_call h5 (r30_small_law _) fun _ H6 h6 => ?_
    cases e3 : okI cl[i].b with
    | false =>
      refine w_bind (gB_y (un_not)) ?_
      rw [Bool.not_false]
      refine gs ?_
      exact bad (Y := emp) (by unfold okCl; rw [e0, e1, e2, e3]; rfl) h6.to
    | true =>
    refine w_bind (gB_y (un_not)) ?_
    rw [Bool.not_true]
    refine gs ?_
    have k0 := of_decide_eq_true (show decide (0 ≤ cl[i].op ∧ cl[i].op ≤ 2147483647) = true from e0)
    have k1 := of_decide_eq_true (show decide (0 ≤ cl[i].flow ∧ cl[i].flow ≤ 2147483647) = true from e1)
    have k2 := of_decide_eq_true (show decide (0 ≤ cl[i].a ∧ cl[i].a ≤ 2147483647) = true from e2)
    have k3 := of_decide_eq_true (show decide (0 ≤ cl[i].b ∧ cl[i].b ≤ 2147483647) = true from e3)
    have q0 := encN_len5 (n := cl[i].op.toNat) (by omega)
    have q1 := encN_len5 (n := cl[i].flow.toNat) (by omega)
    have q2 := encN_len5 (n := cl[i].a.toNat) (by omega)
    have q3 := encN_len5 (n := cl[i].b.toNat) (by omega)
    refine w_ld h6 end_f0 rfl ?_
    refine w_bind (conv_ui (by omega) (by omega)) ?_
    refine w_call h6 (r30_put_law s l cl[i].op.toNat (by omega) (by omega)) fun s1 J1 j1 => ?_
    refine w_ad end_f0 ?_
    refine w_Ld1 j1 rfl ?_
    refine w_eq1 h6 j1 rfl ?_
    refine w_bind (conv_ui (by omega) (by omega)) ?_
    refine w_call j1 (r30_put_law s1 (l ++ encN cl[i].op.toNat) cl[i].flow.toNat (by omega) (by simp only [List.length_append]; omega)) fun s2 J2 j2 => ?_
    refine w_ad end_f0 ?_
    refine w_Ld1 j2 rfl ?_
    refine w_eq1 h6 j2 rfl ?_
    refine w_eq1 j1 j2 rfl ?_
    refine w_bind (conv_ui (by omega) (by omega)) ?_
    refine w_call j2 (r30_put_law s2 (l ++ encN cl[i].op.toNat ++ encN cl[i].flow.toNat) cl[i].a.toNat (by omega) (by simp only [List.length_append]; omega)) fun s3 J3 j3 => ?_
    refine w_ad end_f0 ?_
    refine w_Ld1 j3 rfl ?_
    refine w_eq1 h6 j3 rfl ?_
    refine w_eq1 j1 j3 rfl ?_
    refine w_eq1 j2 j3 rfl ?_
    refine w_bind (conv_ui (by omega) (by omega)) ?_
    refine w_call j3 (r30_put_law s3 (l ++ encN cl[i].op.toNat ++ encN cl[i].flow.toNat ++ encN cl[i].a.toNat) cl[i].b.toNat (by omega) (by simp only [List.length_append]; omega)) fun s4 J4 j4 => ?_
    refine wp_eq (r30_Encode_k37_eq _ _ _ _ _ _ _ J4) ?_
    refine w_bind (bin_add_i (by omega) (by omega)) ?_
    refine ih (i + 1) s4 (l ++ encN cl[i].op.toNat ++ encN cl[i].flow.toNat ++ encN cl[i].a.toNat ++ encN cl[i].b.toNat) J4 (by omega) (fun j hj hji => ?_) (by simp only [List.length_append]; omega) hi10 (fun e => ?_) j4.to
    · rcases Nat.lt_or_ge j i with h1 | h1
      · exact ho j hj h1
      · have : j = i := by omega
        subst this
        unfold okCl
        rw [e0, e1, e2, e3]; rfl
    · rw [← hl e, List.drop_eq_getElem_cons hil, List.flatMap_cons]
      simp only [encC, nums, encT, List.flatMap_cons, List.flatMap_nil, List.append_nil, List.append_assoc]

/-- The lists, and the picks. -/
theorem renc_lists {b6 : Nat} {us : List Sv} (ru : Rd X v 1 encS us) (hvl : us.length = ll.length) (r2 : ∀ i (h : i < us.length) (h' : i < ll.length), Rd X (us[i]).v 4 Cl.cells ll[i]) [r : Rd X pv 1 encI pk] (hb6 : Hs X b6 (.cells false (planV c v))) {T : List Nat} {ok : Bool} (hT : T.length ≤ 90000) (h6 : ll.length ≤ 6) (h60 : sumL ll ≤ 60) (hk : pk.length ≤ 4000)
    (hok : ok = (ll.all (·.all okCl) && pk.all okP)) (x4 x5 : Value) : ∀ (d i : Nat) (s : Value) (l : List Nat) (H : AH), i + d = us.length → (∀ j, (h : j < ll.length) → j < i → (ll[j]).all okCl = true) → l.length ≤ 1000 + 2000 * i → (ok = true → l ++ ((ll.drop i).flatMap encR ++ (encN pk.length ++ pk.flatMap encT)) = T) → Holds (ts 1 encB s l * X) H →
    wp (r30_Encode_k28 pv (vp b6) x4 x5 s (vi i) H) (REnd X ok T) := by
  intro d
  induction d with
  | zero =>
    intro i s l H hi ho hlen hl h
    refine wp_eq (r30_Encode_k28_eq _ _ _ _ _ _ H) ?_
    refine w_ld h end_f0 rfl ?_
    refine w_rlen (s := v) (l := us) h ?_
    refine w_bind (lss_f (by omega)) ?_
    refine gs ?_
    refine wp_eq (r30_Encode_e27_0_eq _ _ _ _ H) ?_
    refine wp_eq (r30_Encode_k1_eq _ _ _ _ H) ?_
    refine w_rlen (s := pv) (l := pk) h ?_
    refine w_bind (conv_ui (by omega) (by omega)) ?_
    refine w_call h (r30_put_law s l (pk.length : Int).toNat (by omega) (by omega)) fun s' H1 h1 => ?_
    refine wp_eq (r30_Encode_k2_eq _ _ _ _ H1) ?_
    refine wp_eq (r30_Encode_k4_eq _ _ _ _ _ H1) ?_
    have hall : ll.all (·.all okCl) = true := List.all_eq_true.2 fun q hq => by
      obtain ⟨j, hj, rfl⟩ := List.getElem_of_mem hq
      exact ho j hj (by omega)
    have e10 := encN_len10 (n := (pk.length : Int).toNat) (by omega)
    refine renc_picks (X := X) hT hk (by rw [hok, hall, Bool.true_and]) _ _ pk.length 0 s' (l ++ encN (pk.length : Int).toNat) H1 (by omega) (fun j _ hj => absurd hj (by omega)) (by simp only [List.length_append]; omega) (fun e => ?_) h1.to
    have := hl e
    rw [List.drop_of_length_le (by omega), List.flatMap_nil, List.nil_append] at this
    rw [← this, List.drop_zero, List.append_assoc]
    rfl
  | succ d ih =>
    intro i s l H hi ho hlen hl h
    have hiu : i < us.length := by omega
    have hil : i < ll.length := by omega
    haveI := r2 i hiu hil
    have hl60 : ll[i].length ≤ 60 := by have := sumL_mem hil; omega
    refine wp_eq (r30_Encode_k28_eq _ _ _ _ _ _ H) ?_
    refine w_ld h end_f0 rfl ?_
    refine w_rlen (s := v) (l := us) h ?_
    refine w_bind (lss_t (by omega)) ?_
    refine gs ?_
    refine wp_eq (r30_Encode_k29_eq _ _ _ _ _ _ H) ?_
    refine w_ld h end_f0 rfl ?_
    refine w_rld1 (s := v) (l := us) h hiu rfl ?_
    refine w_rlen (s := (us[i]).v) (l := ll[i]) h ?_
    refine w_bind (conv_ui (by omega) (by omega)) ?_
    refine w_call h (r30_put_law s l (ll[i].length : Int).toNat (by omega) (by omega)) fun s' H1 h1 => ?_
    refine wp_eq (r30_Encode_k33_eq _ _ _ _ _ _ _ H1) ?_
    have e10 := encN_len10 (n := (ll[i].length : Int).toNat) (by omega)
    refine renc_list (X := X) (us := us) (i0 := i) hiu (cl := ll[i]) (rest := (ll.drop (i + 1)).flatMap encR ++ (encN pk.length ++ pk.flatMap encT)) (T := T) (c := c) hT (by omega) (fun e => ?_) _ _ _ (fun s l H hall hlen2 hl h => ?_) ll[i].length 0 s' (l ++ encN (ll[i].length : Int).toNat) H1 (by omega) (fun j _ hj => absurd hj (by omega)) (by simp only [List.length_append]; omega) (by omega) (fun e => ?_) h1.to
    · rw [hok]
      have : ll.all (·.all okCl) = false := by
        rw [List.all_eq_false]
        exact ⟨ll[i], List.getElem_mem hil, by rw [e]; simp⟩
      rw [this]; rfl
    · refine wp_eq (r30_Encode_k30_eq _ _ _ _ _ _ H) ?_
      refine w_bind (bin_add_i (by omega) (by omega)) ?_
      refine ih (i + 1) s l H (by omega) (fun j hj hji => ?_) (by omega) hl h
      rcases Nat.lt_or_ge j i with h1 | h1
      · exact ho j hj h1
      · have : j = i := by omega
        subst this
        exact hall
    · rw [← hl e, List.drop_zero, List.drop_eq_getElem_cons hil, List.flatMap_cons]
      simp only [encR, List.append_assoc]
      rfl
end
end Go.Proofs.YthagelbepgcolaaGreatDoor.Gst
