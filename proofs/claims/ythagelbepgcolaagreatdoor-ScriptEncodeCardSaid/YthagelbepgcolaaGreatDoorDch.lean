/- Encode, of the reference: the whole. -/
import Derived.Test.YthagelbepgcolaaGreatDoorDcg
namespace Go.Proofs.YthagelbepgcolaaGreatDoor.Gst
open Go Go.RowKit
set_option linter.unusedSimpArgs false
set_option linter.unusedVariables false
set_option maxHeartbeats 1000000
section
variable {P R X : SP} {v pv : Value} {ll : List (List Cl)} {pk : List Int} {c : Cfg}
theorem r30_Encode_law [L : Ls P v ll] [r : Rd P pv 1 encI pk] (c : Cfg) (hb : ∀ l ∈ ll, l.length ≤ 140737488355328) :
    Sp n_r30_Encode [.agg (planV c v).toArray, pv] P (fun s : Value => .tuple #[s, vi (if okS c ll pk then 0 else 1)]) (fun s => EncQ P c ll pk s) := by
  refine sp_of fun R H h => ?_
  obtain ⟨us, hvl, r1, r2⟩ := L.out
  refine wp_of (fun r => r30_Encode_of _ _ H) ?_
  refine w_newC h fun b H1 h1 => ?_
  refine w_LdN h1 ?_
  refine w_call h1 (r16_may (P := P) (v := v) (ll := ll) c hb) fun _ H2 h2 => ?_
  have bad : okS c ll pk = false → ∀ {H : AH} {Y : SP}, Holds (Y * (P * R)) H → wp (some (Value.tuple #[.slice none 0 0, vi 1], H)) fun v' H' => ∃ s : Value, v' = .tuple #[s, vi (if okS c ll pk then 0 else 1)] ∧ Holds (EncQ P c ll pk s * R) H' := by
    intro e H Y h
    refine w_ret ⟨.slice none 0 0, by rw [e]; rfl, ?_⟩
    unfold EncQ
    rw [e, if_neg (by simp), sep_assoc, Holds.pu]
    exact ⟨rfl, h.to⟩
  cases hm : mayB c ll with
  | false =>
    refine w_bind (un_not) ?_
    rw [Bool.not_false]
    refine gs ?_
    exact bad (by unfold okS; rw [hm]; rfl) (Y := emp) h2.to
  | true =>
  refine w_bind (un_not) ?_
  rw [Bool.not_true]
  obtain ⟨m1, m2, m3⟩ := mayB_sum hm
  have hc := rightB_iff.1 m3
  refine gs ?_
  refine w_rlenB (s := pv) (l := pk) h2 ?_
  by_cases hk : (4000 : Int) < pk.length
  · refine w_bind (gB_y (gtr_t hk)) ?_
    refine gs ?_
    exact bad (by unfold okS; rw [decide_eq_false (by omega)]; simp) (Y := emp) h2.to
  refine w_bind (gB_y (gtr_f hk)) ?_
  refine gs ?_
  refine w_ldN h2 end_f0 ?_
  refine w_new h2 fun b2 H3 h3 => ?_
  refine w_St h3 rfl rfl fun H4 h4 => ?_
  refine w_ld h4 end_f0 rfl ?_
  refine w_bind (conv_ui (by omega) (by omega)) ?_
  have a1 : (encN c.sh.toNat).length ≤ 10 := encN_len10 (by omega)
  have a2 : (encN c.sl.toNat).length ≤ 10 := encN_len10 (by omega)
  have a3 : (encN c.wk.toNat).length ≤ 10 := encN_len10 (by omega)
  have a4 : (encN c.wd.toNat).length ≤ 10 := encN_len10 (by omega)
  have a5 : (encN c.un).length ≤ 10 := encN_len10 (by omega)
  have a6 : (encN (us.length : Int).toNat).length ≤ 10 := encN_len10 (by omega)
  refine w_call (ts_nil 1 encB h4) (r30_put_law (.slice none 0 0) [] c.sh.toNat (by omega) (by simp)) fun s1 J1 j1 => ?_
  rw [List.nil_append] at j1
  refine w_ad end_f0 ?_
  refine w_Ld1 j1 rfl ?_
  refine w_eq1 h4 j1 rfl ?_
  refine w_bind (conv_ui (by omega) (by omega)) ?_
  refine w_call j1 (r30_put_law s1 (encN c.sh.toNat) c.sl.toNat (by omega) (by omega)) fun s2 J2 j2 => ?_
  refine w_ad end_f0 ?_
  refine w_Ld1 j2 rfl ?_
  refine w_eq1 h4 j2 rfl ?_
  refine w_eq1 j1 j2 rfl ?_
  refine w_bind (conv_ui (by omega) (by omega)) ?_
  refine w_call j2 (r30_put_law s2 (encN c.sh.toNat ++ encN c.sl.toNat) c.wk.toNat (by omega) (by simp only [List.length_append]; omega)) fun s3 J3 j3 => ?_
  refine w_ad end_f0 ?_
  refine w_Ld1 j3 rfl ?_
  refine w_eq1 h4 j3 rfl ?_
  refine w_eq1 j1 j3 rfl ?_
  refine w_eq1 j2 j3 rfl ?_
  refine w_bind (conv_ui (by omega) (by omega)) ?_
  refine w_call j3 (r30_put_law s3 (encN c.sh.toNat ++ encN c.sl.toNat ++ encN c.wk.toNat) c.wd.toNat (by omega) (by simp only [List.length_append]; omega)) fun s4 J4 j4 => ?_
  refine w_ad end_f0 ?_
  refine w_Ld1 j4 rfl ?_
  refine w_eq1 h4 j4 rfl ?_
  refine w_eq1 j1 j4 rfl ?_
  refine w_eq1 j2 j4 rfl ?_
  refine w_eq1 j3 j4 rfl ?_
  refine w_call j4 (r30_put_law s4 (encN c.sh.toNat ++ encN c.sl.toNat ++ encN c.wk.toNat ++ encN c.wd.toNat) c.un (by omega) (by simp only [List.length_append]; omega)) fun s5 J5 j5 => ?_
  refine w_ld j5 end_f0 rfl ?_
  refine w_rlen (s := v) (l := us) j5 ?_
  refine w_bind (conv_ui (by omega) (by omega)) ?_
  refine w_call j5 (r30_put_law s5 (encN c.sh.toNat ++ encN c.sl.toNat ++ encN c.wk.toNat ++ encN c.wd.toNat ++ encN c.un) (us.length : Int).toNat (by omega) (by simp only [List.length_append]; omega)) fun s6 J6 j6 => ?_
  refine wp_eq (r30_Encode_k0_eq _ _ _ _ _ J6) ?_
  refine wp_eq (r30_Encode_k26_eq _ _ _ _ _ _ J6) ?_
  have hok : okS c ll pk = (ll.all (·.all okCl) && pk.all okP) := by
    unfold okS
    rw [hm, decide_eq_true (show pk.length ≤ 4000 by omega)]
    rfl
  let T := if okS c ll pk = true then bytesS c ll pk else []
  have hT : T.length ≤ 90000 := by
    show (if _ then _ else _ : List Nat).length ≤ _
    split
    · rename_i e; exact bytesS_len e
    · simp
  refine wp_imp (fun v' H' hq => ?_) (renc_lists (X := blk b (.cells false (planV c v)) * (P * R)) (us := us) (T := T) (ok := okS c ll pk) (c := c) inferInstance hvl (fun i h h' => by haveI := r2 i h h'; infer_instance) inferInstance hT m1 m2 (by omega) hok _ _ us.length 0 s6 (encN c.sh.toNat ++ encN c.sl.toNat ++ encN c.wk.toNat ++ encN c.wd.toNat ++ encN c.un ++ encN (us.length : Int).toNat) J6 (by omega) (fun j _ hj => absurd hj (by omega)) (by simp only [List.length_append]; omega) (fun e => ?_) j6.to)
  · obtain ⟨s, rfl, hq⟩ := hq
    refine ⟨s, rfl, ?_⟩
    unfold EncQ
    cases e : okS c ll pk with
    | true =>
      rw [e, if_pos rfl] at hq
      rw [if_pos rfl]
      have hTe : T = bytesS c ll pk := by show (if _ then _ else _) = _; rw [if_pos e]
      rw [hTe] at hq
      exact hq.to
    | false =>
      rw [e, if_neg (by simp), Holds.pu] at hq
      rw [if_neg (by simp), sep_assoc, Holds.pu]
      exact ⟨hq.1, hq.2.to⟩
  · have hTe : T = bytesS c ll pk := by show (if _ then _ else _) = _; rw [if_pos e]
    rw [hTe, List.drop_zero]
    unfold bytesS
    rw [← hvl]
    simp only [encC, nums, encT, List.flatMap_cons, List.flatMap_nil, List.append_nil, List.append_assoc]
    rfl
end
end Go.Proofs.YthagelbepgcolaaGreatDoor.Gst
