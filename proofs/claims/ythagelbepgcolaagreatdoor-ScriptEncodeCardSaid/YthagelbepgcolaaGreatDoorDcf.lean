/- Encode, of the program. -/
import Derived.Test.YthagelbepgcolaaGreatDoorDce
namespace Go.Proofs.YthagelbepgcolaaGreatDoor.Gst
open Go Go.RowKit
set_option linter.unusedSimpArgs false
set_option linter.unusedVariables false
set_option maxHeartbeats 1000000
section
variable {P R X : SP} {v pv : Value} {ll : List (List Cl)} {pk : List Int} {c : Cfg}
theorem enc_cfg {T rest : List Nat} (hT : T.length ≤ 90000) (x : Cl) (hx : okCl x = true) (x1 x2 x4 x5 x6 : Value) {Q : Value → AH → Prop}
    (next : ∀ (s : Value) (l : List Nat) (H : AH), l ++ rest = T → Holds (ts 1 encB s l * X) H → wp (script_Encode_k1 x1 x2 x4 x5 x6 s H) Q) : ∀ (d i : Nat) (s : Value) (l : List Nat) (H : AH), i + d = 4 → l ++ (((nums x).drop i).flatMap encT ++ rest) = T → Holds (ts 1 encB s l * X) H →
    wp (script_Encode_k70 x1 x2 x4 x5 x6 s (.agg (Cl.cells x).toArray) (vi i) H) Q := by
  intro d
  induction d with
  | zero =>
    intro i s l H hi hl h
    refine wp_eq (script_Encode_k70_eq _ _ _ _ _ _ _ _ H) ?_
    refine w_bind (lss_f (by omega)) ?_
    refine gs ?_
    refine wp_eq (script_Encode_e69_0_eq _ _ _ _ _ _ H) ?_
    rw [List.drop_of_length_le (show (nums x).length ≤ i by show 4 ≤ i; omega), List.flatMap_nil, List.nil_append] at hl
    exact next s l H hl h
  | succ d ih =>
    intro i s l H hi hl h
    have hi4 : i < 4 := by omega
    refine wp_eq (script_Encode_k70_eq _ _ _ _ _ _ _ _ H) ?_
    refine w_bind (lss_t (by omega)) ?_
    refine gs ?_
    refine wp_eq (script_Encode_k71_eq _ _ _ _ _ _ _ _ H) ?_
    refine w_bind (idx4 x i hi4) ?_
    have hok := okCl_iff.1 hx i hi4
    unfold okI at hok
    have hok := of_decide_eq_true hok
    refine w_bind (conv_ui (by omega) (by omega)) ?_
    have hll : l.length ≤ 90000 := by have := congrArg List.length hl; simp only [List.length_append] at this; omega
    refine w_call h (script_put_law s l (nthI x i).toNat (by omega) (by omega)) fun s' H1 h1 => ?_
    refine wp_eq (script_Encode_k72_eq _ _ _ _ _ _ _ _ H1) ?_
    refine w_bind (bin_add_i (by omega) (by omega)) ?_
    refine ih (i + 1) s' (l ++ encN (nthI x i).toNat) H1 (by omega) ?_ h1.to
    rw [← hl, nums_drop x hi4, List.flatMap_cons, List.append_assoc, List.append_assoc]
theorem okCfg (h : rightB c = true) : okCl ⟨c.sh, c.sl, c.wk, c.wd⟩ = true := by
  have hc := rightB_iff.1 h
  refine okCl_iff.2 fun i hi => ?_
  unfold okI
  match i, hi with
  | 0, _ => exact decide_eq_true (show 0 ≤ c.sh ∧ c.sh ≤ 2147483647 by omega)
  | 1, _ => exact decide_eq_true (show 0 ≤ c.sl ∧ c.sl ≤ 2147483647 by omega)
  | 2, _ => exact decide_eq_true (show 0 ≤ c.wk ∧ c.wk ≤ 2147483647 by omega)
  | 3, _ => exact decide_eq_true (show 0 ≤ c.wd ∧ c.wd ≤ 2147483647 by omega)
/-- What Encode tells. -/
def EncQ (P : SP) (c : Cfg) (ll : List (List Cl)) (pk : List Int) (s : Value) : SP := if okS c ll pk = true then ts 1 encB s (bytesS c ll pk) * P else pu (s = .slice none 0 0) * P
/-- **Encode, of the program.** -/
theorem script_Encode_law [L : Ls P v ll] [r : Rd P pv 1 encI pk] (c : Cfg) (hn : (ll.length : Int) < 9223372036854775808) (hb : ll.length ≤ 6 → ∀ l ∈ ll, l.length ≤ 140737488355328) :
    Sp n_script_Encode [.agg (planV c v).toArray, pv] P (fun s : Value => .tuple #[s, vi (if okS c ll pk then 0 else 1)]) (fun s => EncQ P c ll pk s) := by
  refine sp_of fun R H h => ?_
  obtain ⟨us, hvl, r1, r2⟩ := L.out
  refine wp_of (fun r => script_Encode_of _ _ H) ?_
  refine w_newC h fun b H1 h1 => ?_
  refine w_LdN h1 ?_
  refine w_call h1 (script_may_law (P := P) (v := v) (pv := pv) (ll := ll) (pk := pk) c hn hb) fun _ H2 h2 => ?_
  unfold EncQ
  cases hm : okS c ll pk with
  | false =>
    refine w_bind (un_not) ?_
    rw [Bool.not_false]
    refine gs ?_
    refine w_ret ⟨.slice none 0 0, rfl, ?_⟩
    rw [if_neg (by simp), sep_assoc, Holds.pu]
    exact ⟨rfl, h2.to⟩
  | true =>
    refine w_bind (un_not) ?_
    rw [Bool.not_true]
    refine gs ?_
    obtain ⟨o1, o2, o3, o4⟩ := okS_iff.1 hm
    obtain ⟨m1, m2, m3⟩ := mayB_sum o1
    have hc := rightB_iff.1 m3
    have hT := bytesS_len hm
    refine w_ldN h2 end_f0 ?_
    refine w_new h2 fun b2 H3 h3 => ?_
    refine w_St h3 rfl rfl fun H4 h4 => ?_
    refine wp_eq (script_Encode_k0_eq _ _ _ _ _ _ H4) ?_
    refine w_ld h4 end_f0 rfl ?_
    refine w_ld h4 end_f0 rfl ?_
    refine w_ld h4 end_f0 rfl ?_
    refine w_ld h4 end_f0 rfl ?_
    refine w_mkA (cs := Cl.cells ⟨c.sh, c.sl, c.wk, c.wd⟩) rfl ?_
    refine wp_eq (script_Encode_k68_eq _ _ _ _ _ _ _ _ H4) ?_
    refine enc_cfg (X := blk b2 (.cells false (Cfg.cells c)) * (blk b (.cells false (planV c v)) * (P * R))) (T := bytesS c ll pk) (rest := encN c.un ++ (encN ll.length ++ (ll.flatMap encR ++ (encN pk.length ++ pk.flatMap encT)))) hT ⟨c.sh, c.sl, c.wk, c.wd⟩ (okCfg m3) _ _ _ _ _ (fun s l H hl h => ?_) 4 0 (.slice none 0 0) [] H4 rfl rfl (ts_nil 1 encB h4.to)
    refine wp_eq (script_Encode_k1_eq _ _ _ _ _ _ H) ?_
    refine w_ld h end_f0 rfl ?_
    have hll : l.length ≤ 90000 := by have := congrArg List.length hl; simp only [List.length_append] at this; omega
    refine w_call h (script_put_law s l c.un (by omega) (by omega)) fun s' H1 h1 => ?_
    refine w_ad end_f0 ?_
    refine w_Ld1 h1 rfl ?_
    refine w_eq1 h h1 rfl ?_
    refine w_rlen (s := v) (l := us) h1 ?_
    refine w_eqK_rfl ?_
    refine w_bind (conv_ui (by omega) (by omega)) ?_
    have hl2 : (l ++ encN c.un).length ≤ 90000 := by have := congrArg List.length hl; simp only [List.length_append] at this ⊢; omega
    refine w_call h1 (script_put_law s' (l ++ encN c.un) (us.length : Int).toNat (by omega) (by omega)) fun s2 H2' h2' => ?_
    refine wp_eq (script_Encode_k2_eq _ _ _ _ _ H2') ?_
    refine w_ld h2' end_f0 rfl ?_
    refine w_rlen (s := v) (l := us) h2' ?_
    refine wp_eq (script_Encode_k21_eq _ _ _ _ _ _ _ H2') ?_
    refine wp_imp (fun v' H' hq => ?_) (enc_lists (X := P * R) (T := bytesS c ll pk) hvl inferInstance (fun i h h' => by haveI := r2 i h h'; infer_instance) hT m1 m2 o2 o4 o3 _ _ us.length 0 s2 (l ++ encN c.un ++ encN (us.length : Int).toNat) H2' (by omega) ?_ h2'.to)
    · obtain ⟨s3, rfl, hq⟩ := hq
      refine ⟨s3, rfl, ?_⟩
      rw [if_pos rfl]
      exact hq.to
    · rw [← hl, List.drop_zero, ← hvl]
      simp only [List.append_assoc]
      rfl
end
end Go.Proofs.YthagelbepgcolaaGreatDoor.Gst
