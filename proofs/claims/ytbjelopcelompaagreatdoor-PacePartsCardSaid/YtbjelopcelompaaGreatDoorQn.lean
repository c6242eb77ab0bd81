/- A plan of any lists, dealt to the workers by turns. -/
import Derived.Test.YtbjelopcelompaaGreatDoorQm
namespace Go.Proofs.YtbjelopcelompaaGreatDoor.Gst
open Go Go.RowKit
set_option linter.unusedSimpArgs false
set_option linter.unusedVariables false
set_option maxHeartbeats 1000000

theorem ts_sv {α : Type} {e : Nat} {enc : α → List Value} {v : Value} {l : List α} {R : SP} {H : AH} (h : Holds (ts e enc v l * R) H) : ∃ s : Sv, v = s.v := by
  rcases ts_open (s := v) h with ⟨rfl, _, _⟩ | ⟨b', rfl, _⟩
  · exact ⟨⟨none, 0, 0⟩, rfl⟩
  · exact ⟨⟨_, _, _⟩, rfl⟩
theorem sum_set : ∀ {l : List Nat} {i : Nat} (h : i < l.length) (x : Nat), (l.set i x).sum + l[i] = l.sum + x := by
  intro l
  induction l with
  | nil => intro i h; simp at h
  | cons a l ih =>
    intro i h x
    cases i with
    | zero => simp; omega
    | succ i =>
      have := ih (i := i) (by simpa using h) x
      simp only [List.set_cons_succ, List.sum_cons, List.getElem_cons_succ]
      omega
theorem sumL_set {ll : List (List Cl)} {i : Nat} (h : i < ll.length) (l : List Cl) : sumL (ll.set i l) + ll[i].length = sumL ll + l.length := by
  unfold sumL
  have := sum_set (l := ll.map List.length) (i := i) (by simpa using h) l.length
  rw [List.map_set]
  simpa using this
theorem partsN_set {ll : List (List Cl)} {i : Nat} (h : i < ll.length) (l : List Cl) : partsN (ll.set i l) + pl ll[i] = partsN ll + pl l := by
  unfold partsN
  have := sum_set (l := ll.map pl) (i := i) (by simpa using h) (pl l)
  rw [List.map_set]
  simpa using this
instance lsS_rd (v : Value) (ps : List (Sv × List Cl)) : Rd (lsS v ps) v 1 encS (ps.map (·.1)) := by unfold lsS; infer_instance

/-- What was made so far. -/
def wideS (b3 : Nat) (c : Cfg) (pv : Value) (ps : List (Sv × List Cl)) : SP := blk b3 (.cells false (planV c pv)) * (ts 1 encS pv (ps.map (·.1)) * rowsS ps)
section
variable {P R : SP} {lv : Value} {ll : List (List Cl)} {Q : Value → AH → Prop}
/-- One more call, of one worker's. -/
theorem wide_put {H : AH} {b1 b2 b3 k i j n : Nat} {sh sl wd : Int} {un : Nat} {pv : Value} {ps : List (Sv × List Cl)} (hk : 0 < k) (hp : ps.length = k) (hs : sumL (ps.map (·.2)) ≤ 3 + n) (hn : n < 40) (x2 : Value)
    {us : List Sv} (r1 : Rd P lv 1 encS us) (hi : i < us.length) {l : List Cl} (r : Rd P (us[i]).v 4 Cl.cells l) (hj : j < l.length) (hl : (l.length : Int) < 9223372036854775808)
    (h : Holds (wideS b3 ⟨sh, sl, k, wd, un⟩ pv ps * (blk b1 (.cells false (Cfg.cells ⟨sh, sl, k, wd, un⟩)) * P) * R) H)
    (hQ : ∀ (ps' : List (Sv × List Cl)) (H' : AH), ps'.length = k → sumL (ps'.map (·.2)) ≤ 3 + (n + 1) → Holds (wideS b3 ⟨sh, sl, k, wd, un⟩ pv ps' * (blk b1 (.cells false (Cfg.cells ⟨sh, sl, k, wd, un⟩)) * P) * R) H' → wp (play_Wide_k16 lv x2 (vp b1) (vp b2) (vp b3) (vi ((n + 1 : Nat) : Int)) (vi i) (vi ((j + 1 : Nat) : Int)) H') Q) :
    wp (play_Wide_k17 lv x2 (vp b1) (vp b2) (vp b3) (vi n) (vi i) (vi j) H) Q := by
  have hw : i % k < ps.length := by rw [hp]; exact Nat.mod_lt _ hk
  obtain ⟨Rr, e1, e2⟩ := rowsS_split hw
  have hlen := sumL_mem (ll := ps.map (·.2)) (i := i % k) (by simpa using hw)
  simp only [List.getElem_map] at hlen
  have hw' : i % k < (ps.map (·.1)).length := by simpa using hw
  have hv : encS ((ps.map (·.1))[i % k]) = [(ps[i % k]).1.v] := by simp
  unfold wideS at h
  rw [e1] at h
  refine wp_eq (play_Wide_k17_eq _ _ _ _ _ _ _ _ H) ?_
  refine w_ld h end_f0 rfl ?_
  refine w_bind (bin_rem_i (b := k) (by omega)) ?_
  refine w_ad end_f0 ?_
  refine w_Ld1 h rfl ?_
  refine w_ad end_f0 ?_
  refine w_Ld1 h rfl ?_
  obtain ⟨ob, oo, had, hld⟩ := rd_ad (s := pv) (enc := encS) (l := ps.map fun x : Sv × List Cl => x.1) (kk := .i64) h hw'
  refine wp_eq (had _) ?_
  refine w_bind (hld (enc' := encS) (l' := ps.map fun x : Sv × List Cl => x.1) h inferInstance hw' _ hv) ?_
  refine w_rld1 (l := us) h hi rfl ?_
  refine w_rldN (l := l) h hj ?_
  refine w_call h (play_call l[j]) fun y H1 h1 => ?_
  refine w_eq1 h1 h rfl ?_
  refine w_eq1 h1 h rfl ?_
  refine w_eqK (by rw [hld (enc' := encS) (l' := ps.map fun x : Sv × List Cl => x.1) h1 inferInstance hw' _ hv, hld (enc' := encS) (l' := ps.map fun x : Sv × List Cl => x.1) h inferInstance hw' _ hv]) ?_
  refine w_R h1 fun b0 H2 h2 => ?_
  refine w_tapp (y : Cl) h2 rfl ?_ (by omega) fun a cc H3 h3 => ?_
  · unfold room; omega
  refine w_eq1 h3 h rfl ?_
  refine w_tst (⟨a, (ps[i % k]).2.length + 1, cc⟩ : Sv) h3 (i := i % k) hw' (.inl ⟨rfl, rfl⟩) rfl (by omega) rfl rfl fun H4 h4 => ?_
  refine w_bind (bin_add_i (by omega) (by omega)) ?_
  refine wp_eq (play_Wide_k18_eq _ _ _ _ _ _ _ _ H4) ?_
  refine w_bind (bin_add_i (by omega) (by omega)) ?_
  have hset := sumL_set (ll := ps.map (·.2)) (i := i % k) (by simpa using hw) ((ps[i % k]).2 ++ [y])
  simp only [List.getElem_map, List.length_append, List.length_singleton] at hset
  refine hQ (ps.set (i % k) (⟨a, (ps[i % k]).2.length + 1, cc⟩, (ps[i % k]).2 ++ [y])) H4 (by simpa using hp) ?_ ?_
  · rw [List.map_set]
    dsimp only
    omega
  · unfold wideS
    rw [e2, List.map_set]
    exact h4.to
theorem play_wide [L : Ls P lv ll] (c : Cfg) (hn : (ll.length : Int) < 9223372036854775808) (hb : ∀ l ∈ ll, (l.length : Int) < 9223372036854775808) :
    Sp n_play_Wide [.agg (Cfg.cells c).toArray, lv, vi 40] P (fun y : Cfg × Sv => .agg (planV y.1 y.2.v).toArray)
      (fun y => ex (fun ps : List (Sv × List Cl) => pu (rightB y.1 = true ∧ (ps.length : Int) = y.1.wk ∧ sumL (ps.map (·.2)) ≤ 43) * lsS y.2.v ps) * P) := by
  refine sp_of fun R H h => ?_
  obtain ⟨us, hvl, r1, r2⟩ := L.out
  refine wp_of (fun r => play_Wide_of _ _ _ H) ?_
  refine w_newC h fun b1 H1 h1 => ?_
  refine w_new h1 fun b2 H2 h2 => ?_
  refine w_ld h2 end_f0 rfl ?_
  refine w_call h2 (play_mod c.wd 4 (by omega) (by omega)) fun _ H3 h3 => ?_
  refine w_bind (bin_gtr) ?_
  refine w_LdN h3 ?_
  refine w_call h3 (play_config c) fun c' H4 h4 => ?_
  obtain ⟨hc', h4⟩ := Holds.pu.1 h4
  obtain ⟨sh, sl, wk, wd, un⟩ := c'
  have hcc := rightB_iff.1 hc'
  dsimp only at hcc
  obtain ⟨k, rfl⟩ : ∃ k : Nat, wk = k := ⟨wk.toNat, by omega⟩
  have hk0 : 0 < k := by omega
  have hk6 : k ≤ 6 := by omega
  refine w_St h4 rfl rfl fun H5 h5 => ?_
  refine w_LdN h5 ?_
  refine w_ld h5 end_f0 rfl ?_
  refine w_make (enc := encS) (n := k) (⟨none, 0, 0⟩ : Sv) h5 rfl (by unfold room; omega) (by omega) fun ob H6 h6 => ?_
  refine w_S ?_
  refine w_new h6 fun b3 H7 h7 => ?_
  refine w_St h7 rfl rfl fun H8 h8 => ?_
  have h9 : Holds (wideS b3 ⟨sh, sl, k, wd, un⟩ (vs ob k 1) (List.replicate k (⟨none, 0, 0⟩, [])) * (blk b1 (.cells false (Cfg.cells ⟨sh, sl, k, wd, un⟩)) * P) * (blk b2 (.cells false [vi 0, vi 0, vi 0, vi 0, vw 0, .slice none 0 0]) * R)) H8 := by
    unfold wideS
    rw [List.map_replicate]
    have := rows_none h8 k
    exact this.to
  -- the lists, from here on
  have go : ∀ (ps : List (Sv × List Cl)) (H : AH), ps.length = k → sumL (ps.map (·.2)) ≤ 3 → Holds (wideS b3 ⟨sh, sl, k, wd, un⟩ (vs ob k 1) ps * (blk b1 (.cells false (Cfg.cells ⟨sh, sl, k, wd, un⟩)) * P) * (blk b2 (.cells false [vi 0, vi 0, vi 0, vi 0, vw 0, .slice none 0 0]) * R)) H →
      wp (play_Wide_k1 lv (vi 40) (vp b1) (vp b2) (vp b3) H) fun v' H' => ∃ y : Cfg × Sv, v' = .agg (planV y.1 y.2.v).toArray ∧ Holds (ex (fun ps : List (Sv × List Cl) => pu (rightB y.1 = true ∧ (ps.length : Int) = y.1.wk ∧ sumL (ps.map (·.2)) ≤ 43) * lsS y.2.v ps) * P * R) H' := by
    intro ps H hp hs h
    refine wp_eq (play_Wide_k1_eq _ _ _ _ _ H) ?_
    refine wp_eq (play_Wide_k2_eq _ _ _ _ _ _ H) ?_
    refine wp_eq (play_Wide_k7_eq _ _ _ _ _ _ _ H) ?_
    have outer : ∀ (d i n : Nat) (ps : List (Sv × List Cl)) (H : AH), i + d = us.length → n ≤ 40 → ps.length = k → sumL (ps.map (·.2)) ≤ 3 + n → Holds (wideS b3 ⟨sh, sl, k, wd, un⟩ (vs ob k 1) ps * (blk b1 (.cells false (Cfg.cells ⟨sh, sl, k, wd, un⟩)) * P) * (blk b2 (.cells false [vi 0, vi 0, vi 0, vi 0, vw 0, .slice none 0 0]) * R)) H →
        wp (play_Wide_k9 lv (vi 40) (vp b1) (vp b2) (vp b3) (vi n) (vi i) H) fun v' H' => ∃ y : Cfg × Sv, v' = .agg (planV y.1 y.2.v).toArray ∧ Holds (ex (fun ps : List (Sv × List Cl) => pu (rightB y.1 = true ∧ (ps.length : Int) = y.1.wk ∧ sumL (ps.map (·.2)) ≤ 43) * lsS y.2.v ps) * P * R) H' := by
      intro d
      induction d with
      | zero =>
        intro i n ps H hi hn hp hs h
        refine wp_eq (play_Wide_k9_eq _ _ _ _ _ _ _ H) ?_
        refine w_rlen (s := lv) (l := us) h ?_
        refine w_bind (lss_f (by omega)) ?_
        repeat (first
          | with_reducible refine w_bind (pick_t _ _) ?_
          | with_reducible refine w_bind (pick_f _ _) ?_
          | with_reducible refine w_bind gV_tt ?_
          | with_reducible refine w_bind gV_ff ?_
          | with_reducible refine w_bind gV_tf ?_
          | with_reducible refine w_bind gV_ft ?_
          | with_reducible refine w_bind gB_tf ?_
          | with_reducible refine w_bind gB_ft ?_
          | with_reducible refine w_gE_tf ?_
          | with_reducible refine w_gE_ft ?_
          | with_reducible refine w_gE_tt ?_
          | with_reducible refine w_gE_ff ?_
          | with_reducible refine w_onK_tf ?_
          | with_reducible refine w_onK_ft ?_
          | with_reducible refine w_onK_tt ?_
          | with_reducible refine w_onK_ff ?_
          | with_reducible refine w_gld_tt ?_
          | with_reducible refine w_gld_ff ?_
          | with_reducible refine w_gld_tf ?_
          | with_reducible refine w_gld_ft ?_
          | with_reducible refine w_gldN_tt ?_
          | with_reducible refine w_gldN_ff ?_
          | with_reducible refine w_gldN_tf ?_
          | with_reducible refine w_gldN_ft ?_
          | with_reducible refine w_gB_tt ?_
          | with_reducible refine w_gB_ff ?_
          | with_reducible refine w_bind un_not ?_
          | with_reducible refine w_cond_t ?_
          | with_reducible refine w_cond_f ?_
          | with_reducible refine w_bind gV_u ?_
          | with_reducible refine w_bind gB_u ?_
          | with_reducible refine w_gld_u ?_)
        refine wp_eq (play_Wide_e8_0_eq _ _ H) ?_
        refine wp_eq (play_Wide_k3_eq _ _ H) ?_
        unfold wideS at h
        refine w_LdN h ?_
        refine w_St h rfl rfl fun H10 h10 => ?_
        refine w_LdN h10 ?_
        refine w_ret ⟨(⟨sh, sl, k, wd, un⟩, ⟨some ⟨ob, 0, none⟩, k, 1⟩), rfl, ?_⟩
        rw [sep_assoc]
        refine Holds.ex.2 ⟨ps, ?_⟩
        rw [sep_assoc]
        refine Holds.pu.2 ⟨⟨hc', by dsimp only; omega, by omega⟩, ?_⟩
        unfold lsS
        exact Holds.to (A := ts 1 encS (vs ob k 1) (ps.map (·.1)) * rowsS ps * (P * R)) h10
      | succ d ih =>
        intro i n ps H hi hn hp hs h
        have hiv : i < us.length := by omega
        have hil : i < ll.length := by omega
        have hri := r2 i hiv hil
        have hli := hb ll[i] (List.getElem_mem hil)
        refine wp_eq (play_Wide_k9_eq _ _ _ _ _ _ _ H) ?_
        refine w_rlen (s := lv) (l := us) h ?_
        refine w_bind (lss_t (by omega)) ?_
        repeat (first
          | with_reducible refine w_bind (pick_t _ _) ?_
          | with_reducible refine w_bind (pick_f _ _) ?_
          | with_reducible refine w_bind gV_tt ?_
          | with_reducible refine w_bind gV_ff ?_
          | with_reducible refine w_bind gV_tf ?_
          | with_reducible refine w_bind gV_ft ?_
          | with_reducible refine w_bind gB_tf ?_
          | with_reducible refine w_bind gB_ft ?_
          | with_reducible refine w_gE_tf ?_
          | with_reducible refine w_gE_ft ?_
          | with_reducible refine w_gE_tt ?_
          | with_reducible refine w_gE_ff ?_
          | with_reducible refine w_onK_tf ?_
          | with_reducible refine w_onK_ft ?_
          | with_reducible refine w_onK_tt ?_
          | with_reducible refine w_onK_ff ?_
          | with_reducible refine w_gld_tt ?_
          | with_reducible refine w_gld_ff ?_
          | with_reducible refine w_gld_tf ?_
          | with_reducible refine w_gld_ft ?_
          | with_reducible refine w_gldN_tt ?_
          | with_reducible refine w_gldN_ff ?_
          | with_reducible refine w_gldN_tf ?_
          | with_reducible refine w_gldN_ft ?_
          | with_reducible refine w_gB_tt ?_
          | with_reducible refine w_gB_ff ?_
          | with_reducible refine w_bind un_not ?_
          | with_reducible refine w_cond_t ?_
          | with_reducible refine w_cond_f ?_
          | with_reducible refine w_bind gV_u ?_
          | with_reducible refine w_bind gB_u ?_
          | with_reducible refine w_gld_u ?_)
        refine wp_eq (play_Wide_k10_eq _ _ _ _ _ _ _ H) ?_
        refine wp_eq (play_Wide_k14_eq _ _ _ _ _ _ _ _ H) ?_
        have inner : ∀ (e j n : Nat) (ps : List (Sv × List Cl)) (H : AH), n + e = 40 → j ≤ ll[i].length → ps.length = k → sumL (ps.map (·.2)) ≤ 3 + n → Holds (wideS b3 ⟨sh, sl, k, wd, un⟩ (vs ob k 1) ps * (blk b1 (.cells false (Cfg.cells ⟨sh, sl, k, wd, un⟩)) * P) * (blk b2 (.cells false [vi 0, vi 0, vi 0, vi 0, vw 0, .slice none 0 0]) * R)) H →
            wp (play_Wide_k16 lv (vi 40) (vp b1) (vp b2) (vp b3) (vi n) (vi i) (vi j) H) fun v' H' => ∃ y : Cfg × Sv, v' = .agg (planV y.1 y.2.v).toArray ∧ Holds (ex (fun ps : List (Sv × List Cl) => pu (rightB y.1 = true ∧ (ps.length : Int) = y.1.wk ∧ sumL (ps.map (·.2)) ≤ 43) * lsS y.2.v ps) * P * R) H' := by
          intro e
          induction e with
          | zero =>
            intro j n ps H hne hj hp hs h
            haveI := hri
            have stop : wp (play_Wide_e15_2 lv (vi 40) (vp b1) (vp b2) (vp b3) (vi n) (vi i) H) fun v' H' => ∃ y : Cfg × Sv, v' = .agg (planV y.1 y.2.v).toArray ∧ Holds (ex (fun ps : List (Sv × List Cl) => pu (rightB y.1 = true ∧ (ps.length : Int) = y.1.wk ∧ sumL (ps.map (·.2)) ≤ 43) * lsS y.2.v ps) * P * R) H' := by
              refine wp_eq (play_Wide_e15_2_eq _ _ _ _ _ _ _ H) ?_
              refine wp_eq (play_Wide_k11_eq _ _ _ _ _ _ _ H) ?_
              refine w_bind (bin_add_i (by omega) (by omega)) ?_
              exact ih (i + 1) n ps H (by omega) (by omega) hp hs h
            refine wp_eq (play_Wide_k16_eq _ _ _ _ _ _ _ _ H) ?_
            refine w_rld1 (s := lv) (l := us) h hiv rfl ?_
            refine w_rlen (l := ll[i]) h ?_
            by_cases hjl : (j : Int) < ll[i].length
            · refine w_bind (lss_t hjl) ?_
              repeat (first
                | with_reducible refine w_bind (pick_t _ _) ?_
                | with_reducible refine w_bind (pick_f _ _) ?_
                | with_reducible refine w_bind gV_tt ?_
                | with_reducible refine w_bind gV_ff ?_
                | with_reducible refine w_bind gV_tf ?_
                | with_reducible refine w_bind gV_ft ?_
                | with_reducible refine w_bind gB_tf ?_
                | with_reducible refine w_bind gB_ft ?_
                | with_reducible refine w_gE_tf ?_
                | with_reducible refine w_gE_ft ?_
                | with_reducible refine w_gE_tt ?_
                | with_reducible refine w_gE_ff ?_
                | with_reducible refine w_onK_tf ?_
                | with_reducible refine w_onK_ft ?_
                | with_reducible refine w_onK_tt ?_
                | with_reducible refine w_onK_ff ?_
                | with_reducible refine w_gld_tt ?_
                | with_reducible refine w_gld_ff ?_
                | with_reducible refine w_gld_tf ?_
                | with_reducible refine w_gld_ft ?_
                | with_reducible refine w_gldN_tt ?_
                | with_reducible refine w_gldN_ff ?_
                | with_reducible refine w_gldN_tf ?_
                | with_reducible refine w_gldN_ft ?_
                | with_reducible refine w_gB_tt ?_
                | with_reducible refine w_gB_ff ?_
                | with_reducible refine w_bind un_not ?_
                | with_reducible refine w_cond_t ?_
                | with_reducible refine w_cond_f ?_
                | with_reducible refine w_bind gV_u ?_
                | with_reducible refine w_bind gB_u ?_
                | with_reducible refine w_gld_u ?_)
              refine w_bind (lss_f (by omega)) ?_
              repeat (first
                | with_reducible refine w_bind (pick_t _ _) ?_
                | with_reducible refine w_bind (pick_f _ _) ?_
                | with_reducible refine w_bind gV_tt ?_
                | with_reducible refine w_bind gV_ff ?_
                | with_reducible refine w_bind gV_tf ?_
                | with_reducible refine w_bind gV_ft ?_
                | with_reducible refine w_bind gB_tf ?_
                | with_reducible refine w_bind gB_ft ?_
                | with_reducible refine w_gE_tf ?_
                | with_reducible refine w_gE_ft ?_
                | with_reducible refine w_gE_tt ?_
                | with_reducible refine w_gE_ff ?_
                | with_reducible refine w_onK_tf ?_
                | with_reducible refine w_onK_ft ?_
                | with_reducible refine w_onK_tt ?_
                | with_reducible refine w_onK_ff ?_
                | with_reducible refine w_gld_tt ?_
                | with_reducible refine w_gld_ff ?_
                | with_reducible refine w_gld_tf ?_
                | with_reducible refine w_gld_ft ?_
                | with_reducible refine w_gldN_tt ?_
                | with_reducible refine w_gldN_ff ?_
                | with_reducible refine w_gldN_tf ?_
                | with_reducible refine w_gldN_ft ?_
                | with_reducible refine w_gB_tt ?_
                | with_reducible refine w_gB_ff ?_
                | with_reducible refine w_bind un_not ?_
                | with_reducible refine w_cond_t ?_
                | with_reducible refine w_cond_f ?_
                | with_reducible refine w_bind gV_u ?_
                | with_reducible refine w_bind gB_u ?_
                | with_reducible refine w_gld_u ?_)
              exact stop
            · refine w_bind (lss_f hjl) ?_
              repeat (first
                | with_reducible refine w_bind (pick_t _ _) ?_
                | with_reducible refine w_bind (pick_f _ _) ?_
                | with_reducible refine w_bind gV_tt ?_
                | with_reducible refine w_bind gV_ff ?_
                | with_reducible refine w_bind gV_tf ?_
                | with_reducible refine w_bind gV_ft ?_
                | with_reducible refine w_bind gB_tf ?_
                | with_reducible refine w_bind gB_ft ?_
                | with_reducible refine w_gE_tf ?_
                | with_reducible refine w_gE_ft ?_
                | with_reducible refine w_gE_tt ?_
                | with_reducible refine w_gE_ff ?_
                | with_reducible refine w_onK_tf ?_
                | with_reducible refine w_onK_ft ?_
                | with_reducible refine w_onK_tt ?_
                | with_reducible refine w_onK_ff ?_
                | with_reducible refine w_gld_tt ?_
                | with_reducible refine w_gld_ff ?_
                | with_reducible refine w_gld_tf ?_
                | with_reducible refine w_gld_ft ?_
                | with_reducible refine w_gldN_tt ?_
                | with_reducible refine w_gldN_ff ?_
                | with_reducible refine w_gldN_tf ?_
                | with_reducible refine w_gldN_ft ?_
                | with_reducible refine w_gB_tt ?_
                | with_reducible refine w_gB_ff ?_
                | with_reducible refine w_bind un_not ?_
                | with_reducible refine w_cond_t ?_
                | with_reducible refine w_cond_f ?_
                | with_reducible refine w_bind gV_u ?_
                | with_reducible refine w_bind gB_u ?_
                | with_reducible refine w_gld_u ?_)
              exact stop
          | succ e ihe =>
            intro j n ps H hne hj hp hs h
            haveI := hri
            refine wp_eq (play_Wide_k16_eq _ _ _ _ _ _ _ _ H) ?_
            refine w_rld1 (s := lv) (l := us) h hiv rfl ?_
            refine w_rlen (l := ll[i]) h ?_
            by_cases hjl : (j : Int) < ll[i].length
            · refine w_bind (lss_t hjl) ?_
              repeat (first
                | with_reducible refine w_bind (pick_t _ _) ?_
                | with_reducible refine w_bind (pick_f _ _) ?_
                | with_reducible refine w_bind gV_tt ?_
                | with_reducible refine w_bind gV_ff ?_
                | with_reducible refine w_bind gV_tf ?_
                | with_reducible refine w_bind gV_ft ?_
                | with_reducible refine w_bind gB_tf ?_
                | with_reducible refine w_bind gB_ft ?_
                | with_reducible refine w_gE_tf ?_
                | with_reducible refine w_gE_ft ?_
                | with_reducible refine w_gE_tt ?_
                | with_reducible refine w_gE_ff ?_
                | with_reducible refine w_onK_tf ?_
                | with_reducible refine w_onK_ft ?_
                | with_reducible refine w_onK_tt ?_
                | with_reducible refine w_onK_ff ?_
                | with_reducible refine w_gld_tt ?_
                | with_reducible refine w_gld_ff ?_
                | with_reducible refine w_gld_tf ?_
                | with_reducible refine w_gld_ft ?_
                | with_reducible refine w_gldN_tt ?_
                | with_reducible refine w_gldN_ff ?_
                | with_reducible refine w_gldN_tf ?_
                | with_reducible refine w_gldN_ft ?_
                | with_reducible refine w_gB_tt ?_
                | with_reducible refine w_gB_ff ?_
                | with_reducible refine w_bind un_not ?_
                | with_reducible refine w_cond_t ?_
                | with_reducible refine w_cond_f ?_
                | with_reducible refine w_bind gV_u ?_
                | with_reducible refine w_bind gB_u ?_
                | with_reducible refine w_gld_u ?_)
              refine w_bind (lss_t (by omega)) ?_
              repeat (first
                | with_reducible refine w_bind (pick_t _ _) ?_
                | with_reducible refine w_bind (pick_f _ _) ?_
                | with_reducible refine w_bind gV_tt ?_
                | with_reducible refine w_bind gV_ff ?_
                | with_reducible refine w_bind gV_tf ?_
                | with_reducible refine w_bind gV_ft ?_
                | with_reducible refine w_bind gB_tf ?_
                | with_reducible refine w_bind gB_ft ?_
                | with_reducible refine w_gE_tf ?_
                | with_reducible refine w_gE_ft ?_
                | with_reducible refine w_gE_tt ?_
                | with_reducible refine w_gE_ff ?_
                | with_reducible refine w_onK_tf ?_
                | with_reducible refine w_onK_ft ?_
                | with_reducible refine w_onK_tt ?_
                | with_reducible refine w_onK_ff ?_
                | with_reducible refine w_gld_tt ?_
                | with_reducible refine w_gld_ff ?_
                | with_reducible refine w_gld_tf ?_
                | with_reducible refine w_gld_ft ?_
                | with_reducible refine w_gldN_tt ?_
                | with_reducible refine w_gldN_ff ?_
                | with_reducible refine w_gldN_tf ?_
                | with_reducible refine w_gldN_ft ?_
                | with_reducible refine w_gB_tt ?_
                | with_reducible refine w_gB_ff ?_
                | with_reducible refine w_bind un_not ?_
                | with_reducible refine w_cond_t ?_
                | with_reducible refine w_cond_f ?_
                | with_reducible refine w_bind gV_u ?_
                | with_reducible refine w_bind gB_u ?_
                | with_reducible refine w_gld_u ?_)
              refine w_bind (lss_t (by omega)) ?_
              repeat (first
                | with_reducible refine w_bind (pick_t _ _) ?_
                | with_reducible refine w_bind (pick_f _ _) ?_
                | with_reducible refine w_bind gV_tt ?_
                | with_reducible refine w_bind gV_ff ?_
                | with_reducible refine w_bind gV_tf ?_
                | with_reducible refine w_bind gV_ft ?_
                | with_reducible refine w_bind gB_tf ?_
                | with_reducible refine w_bind gB_ft ?_
                | with_reducible refine w_gE_tf ?_
                | with_reducible refine w_gE_ft ?_
                | with_reducible refine w_gE_tt ?_
                | with_reducible refine w_gE_ff ?_
                | with_reducible refine w_onK_tf ?_
                | with_reducible refine w_onK_ft ?_
                | with_reducible refine w_onK_tt ?_
                | with_reducible refine w_onK_ff ?_
                | with_reducible refine w_gld_tt ?_
                | with_reducible refine w_gld_ff ?_
                | with_reducible refine w_gld_tf ?_
                | with_reducible refine w_gld_ft ?_
                | with_reducible refine w_gldN_tt ?_
                | with_reducible refine w_gldN_ff ?_
                | with_reducible refine w_gldN_tf ?_
                | with_reducible refine w_gldN_ft ?_
                | with_reducible refine w_gB_tt ?_
                | with_reducible refine w_gB_ff ?_
                | with_reducible refine w_bind un_not ?_
                | with_reducible refine w_cond_t ?_
                | with_reducible refine w_cond_f ?_
                | with_reducible refine w_bind gV_u ?_
                | with_reducible refine w_bind gB_u ?_
                | with_reducible refine w_gld_u ?_)
              exact wide_put hk0 hp hs (by omega) (vi 40) r1 hiv hri (by omega) hli h (fun ps' H' hp' hs' h' => ihe (j + 1) (n + 1) ps' H' (by omega) (by omega) hp' hs' h')
            · refine w_bind (lss_f hjl) ?_
              repeat (first
                | with_reducible refine w_bind (pick_t _ _) ?_
                | with_reducible refine w_bind (pick_f _ _) ?_
                | with_reducible refine w_bind gV_tt ?_
                | with_reducible refine w_bind gV_ff ?_
                | with_reducible refine w_bind gV_tf ?_
                | with_reducible refine w_bind gV_ft ?_
                | with_reducible refine w_bind gB_tf ?_
                | with_reducible refine w_bind gB_ft ?_
                | with_reducible refine w_gE_tf ?_
                | with_reducible refine w_gE_ft ?_
                | with_reducible refine w_gE_tt ?_
                | with_reducible refine w_gE_ff ?_
                | with_reducible refine w_onK_tf ?_
                | with_reducible refine w_onK_ft ?_
                | with_reducible refine w_onK_tt ?_
                | with_reducible refine w_onK_ff ?_
                | with_reducible refine w_gld_tt ?_
                | with_reducible refine w_gld_ff ?_
                | with_reducible refine w_gld_tf ?_
                | with_reducible refine w_gld_ft ?_
                | with_reducible refine w_gldN_tt ?_
                | with_reducible refine w_gldN_ff ?_
                | with_reducible refine w_gldN_tf ?_
                | with_reducible refine w_gldN_ft ?_
                | with_reducible refine w_gB_tt ?_
                | with_reducible refine w_gB_ff ?_
                | with_reducible refine w_bind un_not ?_
                | with_reducible refine w_cond_t ?_
                | with_reducible refine w_cond_f ?_
                | with_reducible refine w_bind gV_u ?_
                | with_reducible refine w_bind gB_u ?_
                | with_reducible refine w_gld_u ?_)
              refine wp_eq (play_Wide_e15_2_eq _ _ _ _ _ _ _ H) ?_
              refine wp_eq (play_Wide_k11_eq _ _ _ _ _ _ _ H) ?_
              refine w_bind (bin_add_i (by omega) (by omega)) ?_
              exact ih (i + 1) n ps H (by omega) (by omega) hp hs h
        exact inner (40 - n) 0 n ps H (by omega) (by omega) hp hs h
    exact outer us.length 0 0 ps H (by omega) (by omega) hp hs h
  have z : sumL ((List.replicate k ((⟨none, 0, 0⟩, []) : Sv × List Cl)).map (·.2)) = 0 := by
    unfold sumL
    rw [List.map_replicate, List.map_replicate]
    simp
  refine wp_eq (play_Wide_k0_eq _ _ _ _ _ _ H8) ?_
  refine w_cond (fun _ => ?_) (fun _ => go _ H8 (by simp) (by omega) h9)
  have h0 : 0 < (List.replicate k ((⟨none, 0, 0⟩, []) : Sv × List Cl)).length := by simpa using hk0
  obtain ⟨Rr, e1, e2⟩ := rowsS_split h0
  unfold wideS at h9
  rw [e1] at h9
  refine w_ad end_f0 ?_
  refine w_Ld1 h9 rfl ?_
  refine w_call h9 play_ready fun s H10 h10 => ?_
  obtain ⟨l, h10⟩ := Holds.ex.1 h10
  rw [sep_assoc, Holds.pu] at h10
  obtain ⟨hl3, h10⟩ := h10
  refine w_eq1 h10 h9 rfl ?_
  refine w_tst (i := 0) (s : Sv) h10 (by simpa using hk0) (.inl ⟨rfl, rfl⟩) rfl (by omega) rfl rfl fun H11 h11 => ?_
  refine go ((List.replicate k (⟨none, 0, 0⟩, [])).set 0 (s, l)) H11 (by simp) ?_ ?_
  · have hset := sumL_set (ll := (List.replicate k ((⟨none, 0, 0⟩, []) : Sv × List Cl)).map (·.2)) (i := 0) (by simpa using hk0) l
    rw [List.map_set]
    dsimp only
    omega
  · unfold wideS
    rw [e2, List.map_set]
    exact h11.to
end
end Go.Proofs.YtbjelopcelompaaGreatDoor.Gst
