/- The statement on parts, of the abstract run: of any plan, and of one that was made of it, with batches of any size. -/
import Derived.Test.YtbjelopcelompaaGreatDoorQp
namespace Go.Proofs.YtbjelopcelompaaGreatDoor.Gst
open Go Go.RowKit
set_option linter.unusedSimpArgs false
set_option linter.unusedVariables false
set_option maxHeartbeats 1000000

/-! ### A plan that is made of another one -/
section
variable {P R : SP} {v : Value} {ll : List (List Cl)}
def PlanQ (P R : SP) (v' : Value) (H' : AH) : Prop := ∃ y : Cfg × Sv, v' = .agg (planV y.1 y.2.v).toArray ∧ Holds (ex (fun ps : List (Sv × List Cl) => pu (rightB y.1 = true ∧ (ps.length : Int) = y.1.wk ∧ ∀ p ∈ ps, p.2.length ≤ 8) * lsS y.2.v ps) * P * R) H'
def plS (b4 b5 b6 : Nat) (c' : Cfg) (pv : Value) (ps : List (Sv × List Cl)) (X : SP) : SP := blk b6 (.cells false (planV c' pv)) * (ts 1 encS pv (ps.map (·.1)) * (rowsS ps * (blk b5 (.cells false (Cfg.cells c')) * (blk b4 (.cells false [vi 0, vi 0, vi 0, vi 0, vw 0, .slice none 0 0]) * X))))
theorem play_plan [L : Ls P v ll] (c : Cfg) (hn : (ll.length : Int) < 9223372036854775808) (hb : ∀ l ∈ ll, (l.length : Int) < 9223372036854775808) :
    Sp n_play_Plan [.agg (planV c v).toArray, vi 5] P (fun y : Cfg × Sv => .agg (planV y.1 y.2.v).toArray)
      (fun y => ex (fun ps : List (Sv × List Cl) => pu (rightB y.1 = true ∧ (ps.length : Int) = y.1.wk ∧ ∀ p ∈ ps, p.2.length ≤ 8) * lsS y.2.v ps) * P) := by
  refine sp_of fun R H h => ?_
  show wp (FF n_play_Plan [.agg (planV c v).toArray, vi 5] H) (PlanQ P R)
  obtain ⟨us, hvl, r1, r2⟩ := L.out
  refine wp_of (fun r => play_Plan_of _ _ H) ?_
  refine w_newC h fun b2 H1 h1 => ?_
  refine w_new h1 fun b4 H2 h2 => ?_
  refine w_ldN h2 end_f0 ?_
  refine w_call h2 (play_config c) fun c' H3 h3 => ?_
  obtain ⟨hc', h3b⟩ := Holds.pu.1 h3
  clear h3
  obtain ⟨sh, sl, wk, wd, un⟩ := c'
  have hcc := rightB_iff.1 hc'
  dsimp only at hcc
  obtain ⟨k, rfl⟩ : ∃ k : Nat, wk = k := ⟨wk.toNat, by omega⟩
  refine w_new h3b fun b5 H4 h4 => ?_
  refine w_St h4 rfl rfl fun H5 h5 => ?_
  refine w_LdN h5 ?_
  refine w_S ?_
  refine w_new h5 fun b6 H6 h6 => ?_
  refine w_St h6 rfl rfl fun H7 h7 => ?_
  refine wp_eq (play_Plan_k0_eq _ _ _ _ _ _ H7) ?_
  refine wp_eq (play_Plan_k5_eq _ _ _ _ _ _ _ H7) ?_
  have h8 : Holds (plS b4 b5 b6 ⟨sh, sl, k, wd, un⟩ (.slice none 0 0) [] (blk b2 (.cells false (planV c v)) * (P * R))) H7 := by
    unfold plS
    rw [List.map_nil]
    have t : Holds (ts 1 encS (.slice none 0 0) [] * (rowsS [] * _)) H7 := ts_nil 1 encS (rows_none h7 0)
    exact t.to
  have outer : ∀ (d i n : Nat) (pv : Value) (ps : List (Sv × List Cl)) (H : AH), i + d = k → n ≤ 57 → ps.length = i → (∀ p ∈ ps, p.2.length ≤ 8) → Holds (plS b4 b5 b6 ⟨sh, sl, k, wd, un⟩ pv ps (blk b2 (.cells false (planV c v)) * (P * R))) H →
      wp (play_Plan_k7 (vi 5) (vp b2) (vp b4) (vp b5) (vp b6) (vi n) (vi i) H) (PlanQ P R) := by
    intro d
    induction d with
    | zero =>
      intro i n pv ps H hi hn57 hp hps h
      refine wp_eq (play_Plan_k7_eq _ _ _ _ _ _ _ H) ?_
      have h' := h
      unfold plS at h'
      refine w_ld h' end_f0 rfl ?_
      refine w_bind (lss_f (by dsimp only; omega)) ?_
      repeat (first
        | with_reducible refine w_bind (pick_t _ _) ?_
        | with_reducible refine w_bind (pick_f _ _) ?_
        | with_reducible refine w_bind gV_tt ?_
        | with_reducible refine w_bind gV_ff ?_
        | with_reducible refine w_bind gV_tf ?_
        | with_reducible refine w_bind gV_ft ?_
        | with_reducible refine w_bind gB_tf ?_
        | with_reducible refine w_bind gB_ft ?_
        | with_reducible refine w_gE_tf ?_
        | with_reducible refine w_gE_ft ?_
        | with_reducible refine w_gE_tt ?_
        | with_reducible refine w_gE_ff ?_
        | with_reducible refine w_onK_tf ?_
        | with_reducible refine w_onK_ft ?_
        | with_reducible refine w_onK_tt ?_
        | with_reducible refine w_onK_ff ?_
        | with_reducible refine w_gld_tt ?_
        | with_reducible refine w_gld_ff ?_
        | with_reducible refine w_gld_tf ?_
        | with_reducible refine w_gld_ft ?_
        | with_reducible refine w_gldN_tt ?_
        | with_reducible refine w_gldN_ff ?_
        | with_reducible refine w_gldN_tf ?_
        | with_reducible refine w_gldN_ft ?_
        | with_reducible refine w_gB_tt ?_
        | with_reducible refine w_gB_ff ?_
        | with_reducible refine w_bind un_not ?_
        | with_reducible refine w_cond_t ?_
        | with_reducible refine w_cond_f ?_
        | with_reducible refine w_bind gV_u ?_
        | with_reducible refine w_bind gB_u ?_
        | with_reducible refine w_gld_u ?_)
      refine wp_eq (play_Plan_e6_0_eq _ _ H) ?_
      refine wp_eq (play_Plan_k1_eq _ _ H) ?_
      have h2' : Holds (ts 1 encS pv (ps.map (·.1)) * (blk b6 (.cells false (planV ⟨sh, sl, k, wd, un⟩ pv)) * (rowsS ps * (blk b5 (.cells false (Cfg.cells ⟨sh, sl, k, wd, un⟩)) * (blk b4 (.cells false [vi 0, vi 0, vi 0, vi 0, vw 0, .slice none 0 0]) * (blk b2 (.cells false (planV c v)) * (P * R))))))) H := h'.to
      obtain ⟨s, rfl⟩ := ts_sv h2'
      refine w_LdN h' ?_
      refine w_St h' rfl rfl fun H10 h10 => ?_
      refine w_LdN h10 ?_
      refine w_ret ⟨(⟨sh, sl, k, wd, un⟩, s), rfl, ?_⟩
      rw [sep_assoc]
      refine Holds.ex.2 ⟨ps, ?_⟩
      rw [sep_assoc]
      refine Holds.pu.2 ⟨⟨hc', by dsimp only; omega, hps⟩, ?_⟩
      unfold lsS
      exact Holds.to (A := ts 1 encS s.v (ps.map (·.1)) * rowsS ps * (P * R)) h10
    | succ d ih =>
      intro i n pv ps H hi hn57 hp hps h
      refine wp_eq (play_Plan_k7_eq _ _ _ _ _ _ _ H) ?_
      have h' := h
      unfold plS at h'
      refine w_ld h' end_f0 rfl ?_
      refine w_bind (lss_t (by dsimp only; omega)) ?_
      repeat (first
        | with_reducible refine w_bind (pick_t _ _) ?_
        | with_reducible refine w_bind (pick_f _ _) ?_
        | with_reducible refine w_bind gV_tt ?_
        | with_reducible refine w_bind gV_ff ?_
        | with_reducible refine w_bind gV_tf ?_
        | with_reducible refine w_bind gV_ft ?_
        | with_reducible refine w_bind gB_tf ?_
        | with_reducible refine w_bind gB_ft ?_
        | with_reducible refine w_gE_tf ?_
        | with_reducible refine w_gE_ft ?_
        | with_reducible refine w_gE_tt ?_
        | with_reducible refine w_gE_ff ?_
        | with_reducible refine w_onK_tf ?_
        | with_reducible refine w_onK_ft ?_
        | with_reducible refine w_onK_tt ?_
        | with_reducible refine w_onK_ff ?_
        | with_reducible refine w_gld_tt ?_
        | with_reducible refine w_gld_ff ?_
        | with_reducible refine w_gld_tf ?_
        | with_reducible refine w_gld_ft ?_
        | with_reducible refine w_gldN_tt ?_
        | with_reducible refine w_gldN_ff ?_
        | with_reducible refine w_gldN_tf ?_
        | with_reducible refine w_gldN_ft ?_
        | with_reducible refine w_gB_tt ?_
        | with_reducible refine w_gB_ff ?_
        | with_reducible refine w_bind un_not ?_
        | with_reducible refine w_cond_t ?_
        | with_reducible refine w_cond_f ?_
        | with_reducible refine w_bind gV_u ?_
        | with_reducible refine w_bind gB_u ?_
        | with_reducible refine w_gld_u ?_)
      refine wp_eq (play_Plan_k8_eq _ _ _ _ _ _ _ H) ?_
      refine wp_eq (play_Plan_k12_eq _ _ _ _ _ _ _ _ H) ?_
      -- a list is laid to the others
      have lay : ∀ (n : Nat) (s : Sv) (l : List Cl) (H : AH), n ≤ 57 → l.length ≤ 8 → Holds (plS b4 b5 b6 ⟨sh, sl, k, wd, un⟩ pv ps (ts 4 Cl.cells s.v l * (blk b2 (.cells false (planV c v)) * (P * R)))) H →
          wp (play_Plan_e21_2 (vi 5) (vp b2) (vp b4) (vp b5) (vp b6) (vi n) (vi i) s.v H) (PlanQ P R) := by
        intro n s l H hn57 hl h
        refine wp_eq (play_Plan_e21_2_eq _ _ _ _ _ _ _ _ H) ?_
        refine wp_eq (play_Plan_k14_eq _ _ _ _ _ _ _ _ H) ?_
        unfold plS at h
        refine w_ld h end_f0 rfl ?_
        refine w_R h fun b0 H3 h3 => ?_
        refine w_tapp (s : Sv) h3 rfl ?_ (by omega) fun a cc H4 h4 => ?_
        · unfold room; simp only [List.length_map]; omega
        refine w_st h4 end_f0 rfl rfl fun H5 h5 => ?_
        refine wp_eq (play_Plan_k9_eq _ _ _ _ _ _ _ H5) ?_
        refine w_bind (bin_add_i (by omega) (by omega)) ?_
        refine ih (i + 1) n (.slice a ((ps.map (·.1)).length + 1) cc) (ps ++ [(s, l)]) H5 (by omega) hn57 (by first | (simp; done) | (simp; omega)) (fun p hp => ?_) ?_
        · rcases List.mem_append.1 hp with hp | hp
          · exact hps p hp
          · rw [List.mem_singleton.1 hp]; exact hl
        · unfold plS
          rw [rowsS_snoc, List.map_append, List.map_singleton]
          exact h5.to
      have calls : ∀ (e j n : Nat) (s : Sv) (l : List Cl) (H : AH), j + e = 5 → n ≤ 57 → l.length ≤ 3 + j → Holds (plS b4 b5 b6 ⟨sh, sl, k, wd, un⟩ pv ps (ts 4 Cl.cells s.v l * (blk b2 (.cells false (planV c v)) * (P * R)))) H →
          wp (play_Plan_k22 (vi 5) (vp b2) (vp b4) (vp b5) (vp b6) (vi n) (vi i) s.v (vi j) H) (PlanQ P R) := by
        intro e
        induction e with
        | zero =>
          intro j n s l H hj hn57 hl h
          refine wp_eq (play_Plan_k22_eq _ _ _ _ _ _ _ _ _ H) ?_
          have h' := h
          unfold plS at h'
          refine w_ld h' end_f0 rfl ?_
          refine w_rlen (s := v) (l := us) h' ?_
          by_cases hil : (i : Int) < us.length
          · have hiv : i < us.length := by omega
            have hil' : i < ll.length := by omega
            haveI := r2 i hiv hil'
            refine w_bind (lss_t hil) ?_
            repeat (first
              | with_reducible refine w_bind (pick_t _ _) ?_
              | with_reducible refine w_bind (pick_f _ _) ?_
              | with_reducible refine w_bind gV_tt ?_
              | with_reducible refine w_bind gV_ff ?_
              | with_reducible refine w_bind gV_tf ?_
              | with_reducible refine w_bind gV_ft ?_
              | with_reducible refine w_bind gB_tf ?_
              | with_reducible refine w_bind gB_ft ?_
              | with_reducible refine w_gE_tf ?_
              | with_reducible refine w_gE_ft ?_
              | with_reducible refine w_gE_tt ?_
              | with_reducible refine w_gE_ff ?_
              | with_reducible refine w_onK_tf ?_
              | with_reducible refine w_onK_ft ?_
              | with_reducible refine w_onK_tt ?_
              | with_reducible refine w_onK_ff ?_
              | with_reducible refine w_gld_tt ?_
              | with_reducible refine w_gld_ff ?_
              | with_reducible refine w_gld_tf ?_
              | with_reducible refine w_gld_ft ?_
              | with_reducible refine w_gldN_tt ?_
              | with_reducible refine w_gldN_ff ?_
              | with_reducible refine w_gldN_tf ?_
              | with_reducible refine w_gldN_ft ?_
              | with_reducible refine w_gB_tt ?_
              | with_reducible refine w_gB_ff ?_
              | with_reducible refine w_bind un_not ?_
              | with_reducible refine w_cond_t ?_
              | with_reducible refine w_cond_f ?_
              | with_reducible refine w_bind gV_u ?_
              | with_reducible refine w_bind gB_u ?_
              | with_reducible refine w_gld_u ?_)
            refine w_ld h' end_f0 rfl ?_
            repeat (first
              | with_reducible refine w_bind (pick_t _ _) ?_
              | with_reducible refine w_bind (pick_f _ _) ?_
              | with_reducible refine w_bind gV_tt ?_
              | with_reducible refine w_bind gV_ff ?_
              | with_reducible refine w_bind gV_tf ?_
              | with_reducible refine w_bind gV_ft ?_
              | with_reducible refine w_bind gB_tf ?_
              | with_reducible refine w_bind gB_ft ?_
              | with_reducible refine w_gE_tf ?_
              | with_reducible refine w_gE_ft ?_
              | with_reducible refine w_gE_tt ?_
              | with_reducible refine w_gE_ff ?_
              | with_reducible refine w_onK_tf ?_
              | with_reducible refine w_onK_ft ?_
              | with_reducible refine w_onK_tt ?_
              | with_reducible refine w_onK_ff ?_
              | with_reducible refine w_gld_tt ?_
              | with_reducible refine w_gld_ff ?_
              | with_reducible refine w_gld_tf ?_
              | with_reducible refine w_gld_ft ?_
              | with_reducible refine w_gldN_tt ?_
              | with_reducible refine w_gldN_ff ?_
              | with_reducible refine w_gldN_tf ?_
              | with_reducible refine w_gldN_ft ?_
              | with_reducible refine w_gB_tt ?_
              | with_reducible refine w_gB_ff ?_
              | with_reducible refine w_bind un_not ?_
              | with_reducible refine w_cond_t ?_
              | with_reducible refine w_cond_f ?_
              | with_reducible refine w_bind gV_u ?_
              | with_reducible refine w_bind gB_u ?_
              | with_reducible refine w_gld_u ?_)
            refine w_rld1 (s := v) (l := us) h' hiv rfl ?_
            repeat (first
              | with_reducible refine w_bind (pick_t _ _) ?_
              | with_reducible refine w_bind (pick_f _ _) ?_
              | with_reducible refine w_bind gV_tt ?_
              | with_reducible refine w_bind gV_ff ?_
              | with_reducible refine w_bind gV_tf ?_
              | with_reducible refine w_bind gV_ft ?_
              | with_reducible refine w_bind gB_tf ?_
              | with_reducible refine w_bind gB_ft ?_
              | with_reducible refine w_gE_tf ?_
              | with_reducible refine w_gE_ft ?_
              | with_reducible refine w_gE_tt ?_
              | with_reducible refine w_gE_ff ?_
              | with_reducible refine w_onK_tf ?_
              | with_reducible refine w_onK_ft ?_
              | with_reducible refine w_onK_tt ?_
              | with_reducible refine w_onK_ff ?_
              | with_reducible refine w_gld_tt ?_
              | with_reducible refine w_gld_ff ?_
              | with_reducible refine w_gld_tf ?_
              | with_reducible refine w_gld_ft ?_
              | with_reducible refine w_gldN_tt ?_
              | with_reducible refine w_gldN_ff ?_
              | with_reducible refine w_gldN_tf ?_
              | with_reducible refine w_gldN_ft ?_
              | with_reducible refine w_gB_tt ?_
              | with_reducible refine w_gB_ff ?_
              | with_reducible refine w_bind un_not ?_
              | with_reducible refine w_cond_t ?_
              | with_reducible refine w_cond_f ?_
              | with_reducible refine w_bind gV_u ?_
              | with_reducible refine w_bind gB_u ?_
              | with_reducible refine w_gld_u ?_)
            refine w_rlenB (l := ll[i]'hil') h' ?_
            repeat (first
              | with_reducible refine w_bind (pick_t _ _) ?_
              | with_reducible refine w_bind (pick_f _ _) ?_
              | with_reducible refine w_bind gV_tt ?_
              | with_reducible refine w_bind gV_ff ?_
              | with_reducible refine w_bind gV_tf ?_
              | with_reducible refine w_bind gV_ft ?_
              | with_reducible refine w_bind gB_tf ?_
              | with_reducible refine w_bind gB_ft ?_
              | with_reducible refine w_gE_tf ?_
              | with_reducible refine w_gE_ft ?_
              | with_reducible refine w_gE_tt ?_
              | with_reducible refine w_gE_ff ?_
              | with_reducible refine w_onK_tf ?_
              | with_reducible refine w_onK_ft ?_
              | with_reducible refine w_onK_tt ?_
              | with_reducible refine w_onK_ff ?_
              | with_reducible refine w_gld_tt ?_
              | with_reducible refine w_gld_ff ?_
              | with_reducible refine w_gld_tf ?_
              | with_reducible refine w_gld_ft ?_
              | with_reducible refine w_gldN_tt ?_
              | with_reducible refine w_gldN_ff ?_
              | with_reducible refine w_gldN_tf ?_
              | with_reducible refine w_gldN_ft ?_
              | with_reducible refine w_gB_tt ?_
              | with_reducible refine w_gB_ff ?_
              | with_reducible refine w_bind un_not ?_
              | with_reducible refine w_cond_t ?_
              | with_reducible refine w_cond_f ?_
              | with_reducible refine w_bind gV_u ?_
              | with_reducible refine w_bind gB_u ?_
              | with_reducible refine w_gld_u ?_)
            by_cases hjl : (j : Int) < (ll[i]'hil').length
            · refine w_bind (lss_t hjl) ?_
              repeat (first
                | with_reducible refine w_bind (pick_t _ _) ?_
                | with_reducible refine w_bind (pick_f _ _) ?_
                | with_reducible refine w_bind gV_tt ?_
                | with_reducible refine w_bind gV_ff ?_
                | with_reducible refine w_bind gV_tf ?_
                | with_reducible refine w_bind gV_ft ?_
                | with_reducible refine w_bind gB_tf ?_
                | with_reducible refine w_bind gB_ft ?_
                | with_reducible refine w_gE_tf ?_
                | with_reducible refine w_gE_ft ?_
                | with_reducible refine w_gE_tt ?_
                | with_reducible refine w_gE_ff ?_
                | with_reducible refine w_onK_tf ?_
                | with_reducible refine w_onK_ft ?_
                | with_reducible refine w_onK_tt ?_
                | with_reducible refine w_onK_ff ?_
                | with_reducible refine w_gld_tt ?_
                | with_reducible refine w_gld_ff ?_
                | with_reducible refine w_gld_tf ?_
                | with_reducible refine w_gld_ft ?_
                | with_reducible refine w_gldN_tt ?_
                | with_reducible refine w_gldN_ff ?_
                | with_reducible refine w_gldN_tf ?_
                | with_reducible refine w_gldN_ft ?_
                | with_reducible refine w_gB_tt ?_
                | with_reducible refine w_gB_ff ?_
                | with_reducible refine w_bind un_not ?_
                | with_reducible refine w_cond_t ?_
                | with_reducible refine w_cond_f ?_
                | with_reducible refine w_bind gV_u ?_
                | with_reducible refine w_bind gB_u ?_
                | with_reducible refine w_gld_u ?_)
              refine w_bind (lss_f (by omega)) ?_
              repeat (first
                | with_reducible refine w_bind (pick_t _ _) ?_
                | with_reducible refine w_bind (pick_f _ _) ?_
                | with_reducible refine w_bind gV_tt ?_
                | with_reducible refine w_bind gV_ff ?_
                | with_reducible refine w_bind gV_tf ?_
                | with_reducible refine w_bind gV_ft ?_
                | with_reducible refine w_bind gB_tf ?_
                | with_reducible refine w_bind gB_ft ?_
                | with_reducible refine w_gE_tf ?_
                | with_reducible refine w_gE_ft ?_
                | with_reducible refine w_gE_tt ?_
                | with_reducible refine w_gE_ff ?_
                | with_reducible refine w_onK_tf ?_
                | with_reducible refine w_onK_ft ?_
                | with_reducible refine w_onK_tt ?_
                | with_reducible refine w_onK_ff ?_
                | with_reducible refine w_gld_tt ?_
                | with_reducible refine w_gld_ff ?_
                | with_reducible refine w_gld_tf ?_
                | with_reducible refine w_gld_ft ?_
                | with_reducible refine w_gldN_tt ?_
                | with_reducible refine w_gldN_ff ?_
                | with_reducible refine w_gldN_tf ?_
                | with_reducible refine w_gldN_ft ?_
                | with_reducible refine w_gB_tt ?_
                | with_reducible refine w_gB_ff ?_
                | with_reducible refine w_bind un_not ?_
                | with_reducible refine w_cond_t ?_
                | with_reducible refine w_cond_f ?_
                | with_reducible refine w_bind gV_u ?_
                | with_reducible refine w_bind gB_u ?_
                | with_reducible refine w_gld_u ?_)
              exact lay n s l H hn57 (by omega) h
            · refine w_bind (lss_f hjl) ?_
              repeat (first
                | with_reducible refine w_bind (pick_t _ _) ?_
                | with_reducible refine w_bind (pick_f _ _) ?_
                | with_reducible refine w_bind gV_tt ?_
                | with_reducible refine w_bind gV_ff ?_
                | with_reducible refine w_bind gV_tf ?_
                | with_reducible refine w_bind gV_ft ?_
                | with_reducible refine w_bind gB_tf ?_
                | with_reducible refine w_bind gB_ft ?_
                | with_reducible refine w_gE_tf ?_
                | with_reducible refine w_gE_ft ?_
                | with_reducible refine w_gE_tt ?_
                | with_reducible refine w_gE_ff ?_
                | with_reducible refine w_onK_tf ?_
                | with_reducible refine w_onK_ft ?_
                | with_reducible refine w_onK_tt ?_
                | with_reducible refine w_onK_ff ?_
                | with_reducible refine w_gld_tt ?_
                | with_reducible refine w_gld_ff ?_
                | with_reducible refine w_gld_tf ?_
                | with_reducible refine w_gld_ft ?_
                | with_reducible refine w_gldN_tt ?_
                | with_reducible refine w_gldN_ff ?_
                | with_reducible refine w_gldN_tf ?_
                | with_reducible refine w_gldN_ft ?_
                | with_reducible refine w_gB_tt ?_
                | with_reducible refine w_gB_ff ?_
                | with_reducible refine w_bind un_not ?_
                | with_reducible refine w_cond_t ?_
                | with_reducible refine w_cond_f ?_
                | with_reducible refine w_bind gV_u ?_
                | with_reducible refine w_bind gB_u ?_
                | with_reducible refine w_gld_u ?_)
              exact lay n s l H hn57 (by omega) h
          · refine w_bind (lss_f hil) ?_
            repeat (first
              | with_reducible refine w_bind (pick_t _ _) ?_
              | with_reducible refine w_bind (pick_f _ _) ?_
              | with_reducible refine w_bind gV_tt ?_
              | with_reducible refine w_bind gV_ff ?_
              | with_reducible refine w_bind gV_tf ?_
              | with_reducible refine w_bind gV_ft ?_
              | with_reducible refine w_bind gB_tf ?_
              | with_reducible refine w_bind gB_ft ?_
              | with_reducible refine w_gE_tf ?_
              | with_reducible refine w_gE_ft ?_
              | with_reducible refine w_gE_tt ?_
              | with_reducible refine w_gE_ff ?_
              | with_reducible refine w_onK_tf ?_
              | with_reducible refine w_onK_ft ?_
              | with_reducible refine w_onK_tt ?_
              | with_reducible refine w_onK_ff ?_
              | with_reducible refine w_gld_tt ?_
              | with_reducible refine w_gld_ff ?_
              | with_reducible refine w_gld_tf ?_
              | with_reducible refine w_gld_ft ?_
              | with_reducible refine w_gldN_tt ?_
              | with_reducible refine w_gldN_ff ?_
              | with_reducible refine w_gldN_tf ?_
              | with_reducible refine w_gldN_ft ?_
              | with_reducible refine w_gB_tt ?_
              | with_reducible refine w_gB_ff ?_
              | with_reducible refine w_bind un_not ?_
              | with_reducible refine w_cond_t ?_
              | with_reducible refine w_cond_f ?_
              | with_reducible refine w_bind gV_u ?_
              | with_reducible refine w_bind gB_u ?_
              | with_reducible refine w_gld_u ?_)
            exact lay n s l H hn57 (by omega) h
        | succ e ihe =>
          intro j n s l H hj hn57 hl h
          refine wp_eq (play_Plan_k22_eq _ _ _ _ _ _ _ _ _ H) ?_
          have h' := h
          unfold plS at h'
          refine w_ld h' end_f0 rfl ?_
          refine w_rlen (s := v) (l := us) h' ?_
          by_cases hil : (i : Int) < us.length
          · have hiv : i < us.length := by omega
            have hil' : i < ll.length := by omega
            haveI := r2 i hiv hil'
            refine w_bind (lss_t hil) ?_
            repeat (first
              | with_reducible refine w_bind (pick_t _ _) ?_
              | with_reducible refine w_bind (pick_f _ _) ?_
              | with_reducible refine w_bind gV_tt ?_
              | with_reducible refine w_bind gV_ff ?_
              | with_reducible refine w_bind gV_tf ?_
              | with_reducible refine w_bind gV_ft ?_
              | with_reducible refine w_bind gB_tf ?_
              | with_reducible refine w_bind gB_ft ?_
              | with_reducible refine w_gE_tf ?_
              | with_reducible refine w_gE_ft ?_
              | with_reducible refine w_gE_tt ?_
              | with_reducible refine w_gE_ff ?_
              | with_reducible refine w_onK_tf ?_
              | with_reducible refine w_onK_ft ?_
              | with_reducible refine w_onK_tt ?_
              | with_reducible refine w_onK_ff ?_
              | with_reducible refine w_gld_tt ?_
              | with_reducible refine w_gld_ff ?_
              | with_reducible refine w_gld_tf ?_
              | with_reducible refine w_gld_ft ?_
              | with_reducible refine w_gldN_tt ?_
              | with_reducible refine w_gldN_ff ?_
              | with_reducible refine w_gldN_tf ?_
              | with_reducible refine w_gldN_ft ?_
              | with_reducible refine w_gB_tt ?_
              | with_reducible refine w_gB_ff ?_
              | with_reducible refine w_bind un_not ?_
              | with_reducible refine w_cond_t ?_
              | with_reducible refine w_cond_f ?_
              | with_reducible refine w_bind gV_u ?_
              | with_reducible refine w_bind gB_u ?_
              | with_reducible refine w_gld_u ?_)
            refine w_ld h' end_f0 rfl ?_
            repeat (first
              | with_reducible refine w_bind (pick_t _ _) ?_
              | with_reducible refine w_bind (pick_f _ _) ?_
              | with_reducible refine w_bind gV_tt ?_
              | with_reducible refine w_bind gV_ff ?_
              | with_reducible refine w_bind gV_tf ?_
              | with_reducible refine w_bind gV_ft ?_
              | with_reducible refine w_bind gB_tf ?_
              | with_reducible refine w_bind gB_ft ?_
              | with_reducible refine w_gE_tf ?_
              | with_reducible refine w_gE_ft ?_
              | with_reducible refine w_gE_tt ?_
              | with_reducible refine w_gE_ff ?_
              | with_reducible refine w_onK_tf ?_
              | with_reducible refine w_onK_ft ?_
              | with_reducible refine w_onK_tt ?_
              | with_reducible refine w_onK_ff ?_
              | with_reducible refine w_gld_tt ?_
              | with_reducible refine w_gld_ff ?_
              | with_reducible refine w_gld_tf ?_
              | with_reducible refine w_gld_ft ?_
              | with_reducible refine w_gldN_tt ?_
              | with_reducible refine w_gldN_ff ?_
              | with_reducible refine w_gldN_tf ?_
              | with_reducible refine w_gldN_ft ?_
              | with_reducible refine w_gB_tt ?_
              | with_reducible refine w_gB_ff ?_
              | with_reducible refine w_bind un_not ?_
              | with_reducible refine w_cond_t ?_
              | with_reducible refine w_cond_f ?_
              | with_reducible refine w_bind gV_u ?_
              | with_reducible refine w_bind gB_u ?_
              | with_reducible refine w_gld_u ?_)
            refine w_rld1 (s := v) (l := us) h' hiv rfl ?_
            repeat (first
              | with_reducible refine w_bind (pick_t _ _) ?_
              | with_reducible refine w_bind (pick_f _ _) ?_
              | with_reducible refine w_bind gV_tt ?_
              | with_reducible refine w_bind gV_ff ?_
              | with_reducible refine w_bind gV_tf ?_
              | with_reducible refine w_bind gV_ft ?_
              | with_reducible refine w_bind gB_tf ?_
              | with_reducible refine w_bind gB_ft ?_
              | with_reducible refine w_gE_tf ?_
              | with_reducible refine w_gE_ft ?_
              | with_reducible refine w_gE_tt ?_
              | with_reducible refine w_gE_ff ?_
              | with_reducible refine w_onK_tf ?_
              | with_reducible refine w_onK_ft ?_
              | with_reducible refine w_onK_tt ?_
              | with_reducible refine w_onK_ff ?_
              | with_reducible refine w_gld_tt ?_
              | with_reducible refine w_gld_ff ?_
              | with_reducible refine w_gld_tf ?_
              | with_reducible refine w_gld_ft ?_
              | with_reducible refine w_gldN_tt ?_
              | with_reducible refine w_gldN_ff ?_
              | with_reducible refine w_gldN_tf ?_
              | with_reducible refine w_gldN_ft ?_
              | with_reducible refine w_gB_tt ?_
              | with_reducible refine w_gB_ff ?_
              | with_reducible refine w_bind un_not ?_
              | with_reducible refine w_cond_t ?_
              | with_reducible refine w_cond_f ?_
              | with_reducible refine w_bind gV_u ?_
              | with_reducible refine w_bind gB_u ?_
              | with_reducible refine w_gld_u ?_)
            refine w_rlenB (l := ll[i]'hil') h' ?_
            repeat (first
              | with_reducible refine w_bind (pick_t _ _) ?_
              | with_reducible refine w_bind (pick_f _ _) ?_
              | with_reducible refine w_bind gV_tt ?_
              | with_reducible refine w_bind gV_ff ?_
              | with_reducible refine w_bind gV_tf ?_
              | with_reducible refine w_bind gV_ft ?_
              | with_reducible refine w_bind gB_tf ?_
              | with_reducible refine w_bind gB_ft ?_
              | with_reducible refine w_gE_tf ?_
              | with_reducible refine w_gE_ft ?_
              | with_reducible refine w_gE_tt ?_
              | with_reducible refine w_gE_ff ?_
              | with_reducible refine w_onK_tf ?_
              | with_reducible refine w_onK_ft ?_
              | with_reducible refine w_onK_tt ?_
              | with_reducible refine w_onK_ff ?_
              | with_reducible refine w_gld_tt ?_
              | with_reducible refine w_gld_ff ?_
              | with_reducible refine w_gld_tf ?_
              | with_reducible refine w_gld_ft ?_
              | with_reducible refine w_gldN_tt ?_
              | with_reducible refine w_gldN_ff ?_
              | with_reducible refine w_gldN_tf ?_
              | with_reducible refine w_gldN_ft ?_
              | with_reducible refine w_gB_tt ?_
              | with_reducible refine w_gB_ff ?_
              | with_reducible refine w_bind un_not ?_
              | with_reducible refine w_cond_t ?_
              | with_reducible refine w_cond_f ?_
              | with_reducible refine w_bind gV_u ?_
              | with_reducible refine w_bind gB_u ?_
              | with_reducible refine w_gld_u ?_)
            by_cases hjl : (j : Int) < (ll[i]'hil').length
            · refine w_bind (lss_t hjl) ?_
              repeat (first
                | with_reducible refine w_bind (pick_t _ _) ?_
                | with_reducible refine w_bind (pick_f _ _) ?_
                | with_reducible refine w_bind gV_tt ?_
                | with_reducible refine w_bind gV_ff ?_
                | with_reducible refine w_bind gV_tf ?_
                | with_reducible refine w_bind gV_ft ?_
                | with_reducible refine w_bind gB_tf ?_
                | with_reducible refine w_bind gB_ft ?_
                | with_reducible refine w_gE_tf ?_
                | with_reducible refine w_gE_ft ?_
                | with_reducible refine w_gE_tt ?_
                | with_reducible refine w_gE_ff ?_
                | with_reducible refine w_onK_tf ?_
                | with_reducible refine w_onK_ft ?_
                | with_reducible refine w_onK_tt ?_
                | with_reducible refine w_onK_ff ?_
                | with_reducible refine w_gld_tt ?_
                | with_reducible refine w_gld_ff ?_
                | with_reducible refine w_gld_tf ?_
                | with_reducible refine w_gld_ft ?_
                | with_reducible refine w_gldN_tt ?_
                | with_reducible refine w_gldN_ff ?_
                | with_reducible refine w_gldN_tf ?_
                | with_reducible refine w_gldN_ft ?_
                | with_reducible refine w_gB_tt ?_
                | with_reducible refine w_gB_ff ?_
                | with_reducible refine w_bind un_not ?_
                | with_reducible refine w_cond_t ?_
                | with_reducible refine w_cond_f ?_
                | with_reducible refine w_bind gV_u ?_
                | with_reducible refine w_bind gB_u ?_
                | with_reducible refine w_gld_u ?_)
              refine w_bind (lss_t (by omega)) ?_
              repeat (first
                | with_reducible refine w_bind (pick_t _ _) ?_
                | with_reducible refine w_bind (pick_f _ _) ?_
                | with_reducible refine w_bind gV_tt ?_
                | with_reducible refine w_bind gV_ff ?_
                | with_reducible refine w_bind gV_tf ?_
                | with_reducible refine w_bind gV_ft ?_
                | with_reducible refine w_bind gB_tf ?_
                | with_reducible refine w_bind gB_ft ?_
                | with_reducible refine w_gE_tf ?_
                | with_reducible refine w_gE_ft ?_
                | with_reducible refine w_gE_tt ?_
                | with_reducible refine w_gE_ff ?_
                | with_reducible refine w_onK_tf ?_
                | with_reducible refine w_onK_ft ?_
                | with_reducible refine w_onK_tt ?_
                | with_reducible refine w_onK_ff ?_
                | with_reducible refine w_gld_tt ?_
                | with_reducible refine w_gld_ff ?_
                | with_reducible refine w_gld_tf ?_
                | with_reducible refine w_gld_ft ?_
                | with_reducible refine w_gldN_tt ?_
                | with_reducible refine w_gldN_ff ?_
                | with_reducible refine w_gldN_tf ?_
                | with_reducible refine w_gldN_ft ?_
                | with_reducible refine w_gB_tt ?_
                | with_reducible refine w_gB_ff ?_
                | with_reducible refine w_bind un_not ?_
                | with_reducible refine w_cond_t ?_
                | with_reducible refine w_cond_f ?_
                | with_reducible refine w_bind gV_u ?_
                | with_reducible refine w_bind gB_u ?_
                | with_reducible refine w_gld_u ?_)
              by_cases hn0 : 0 < (n : Int)
              · refine w_bind (gtr_t hn0) ?_
                repeat (first
                  | with_reducible refine w_bind (pick_t _ _) ?_
                  | with_reducible refine w_bind (pick_f _ _) ?_
                  | with_reducible refine w_bind gV_tt ?_
                  | with_reducible refine w_bind gV_ff ?_
                  | with_reducible refine w_bind gV_tf ?_
                  | with_reducible refine w_bind gV_ft ?_
                  | with_reducible refine w_bind gB_tf ?_
                  | with_reducible refine w_bind gB_ft ?_
                  | with_reducible refine w_gE_tf ?_
                  | with_reducible refine w_gE_ft ?_
                  | with_reducible refine w_gE_tt ?_
                  | with_reducible refine w_gE_ff ?_
                  | with_reducible refine w_onK_tf ?_
                  | with_reducible refine w_onK_ft ?_
                  | with_reducible refine w_onK_tt ?_
                  | with_reducible refine w_onK_ff ?_
                  | with_reducible refine w_gld_tt ?_
                  | with_reducible refine w_gld_ff ?_
                  | with_reducible refine w_gld_tf ?_
                  | with_reducible refine w_gld_ft ?_
                  | with_reducible refine w_gldN_tt ?_
                  | with_reducible refine w_gldN_ff ?_
                  | with_reducible refine w_gldN_tf ?_
                  | with_reducible refine w_gldN_ft ?_
                  | with_reducible refine w_gB_tt ?_
                  | with_reducible refine w_gB_ff ?_
                  | with_reducible refine w_bind un_not ?_
                  | with_reducible refine w_cond_t ?_
                  | with_reducible refine w_cond_f ?_
                  | with_reducible refine w_bind gV_u ?_
                  | with_reducible refine w_bind gB_u ?_
                  | with_reducible refine w_gld_u ?_)
                have hjl' : j < (ll[i]'hil').length := by omega
                refine wp_eq (play_Plan_k23_eq _ _ _ _ _ _ _ _ _ H) ?_
                refine w_ld h' end_f0 rfl ?_
                refine w_rld1 (s := v) (l := us) h' hiv rfl ?_
                refine w_rldN (l := ll[i]'hil') h' (i := j) hjl' ?_
                refine w_call h' (play_call ((ll[i]'hil')[j]'hjl')) fun y H3 h3 => ?_
                refine w_R h3 fun b0 H4 h4 => ?_
                refine w_tapp (y : Cl) h4 rfl ?_ (by omega) fun a cc H5 h5 => ?_
                · unfold room; omega
                refine w_bind (bin_sub_i (by omega) (by omega)) ?_
                refine wp_eq (play_Plan_k24_eq _ _ _ _ _ _ _ _ _ H5) ?_
                refine w_bind (bin_add_i (by omega) (by omega)) ?_
                rw [show ((n : Nat) : Int) - 1 = ((n - 1 : Nat) : Int) from by omega]
                refine ihe (j + 1) (n - 1) ⟨a, l.length + 1, cc⟩ (l ++ [y]) H5 (by omega) (by omega) (by first | (simp; done) | (simp; omega)) ?_
                unfold plS
                exact h5.to
              · refine w_bind (gtr_f hn0) ?_
                repeat (first
                  | with_reducible refine w_bind (pick_t _ _) ?_
                  | with_reducible refine w_bind (pick_f _ _) ?_
                  | with_reducible refine w_bind gV_tt ?_
                  | with_reducible refine w_bind gV_ff ?_
                  | with_reducible refine w_bind gV_tf ?_
                  | with_reducible refine w_bind gV_ft ?_
                  | with_reducible refine w_bind gB_tf ?_
                  | with_reducible refine w_bind gB_ft ?_
                  | with_reducible refine w_gE_tf ?_
                  | with_reducible refine w_gE_ft ?_
                  | with_reducible refine w_gE_tt ?_
                  | with_reducible refine w_gE_ff ?_
                  | with_reducible refine w_onK_tf ?_
                  | with_reducible refine w_onK_ft ?_
                  | with_reducible refine w_onK_tt ?_
                  | with_reducible refine w_onK_ff ?_
                  | with_reducible refine w_gld_tt ?_
                  | with_reducible refine w_gld_ff ?_
                  | with_reducible refine w_gld_tf ?_
                  | with_reducible refine w_gld_ft ?_
                  | with_reducible refine w_gldN_tt ?_
                  | with_reducible refine w_gldN_ff ?_
                  | with_reducible refine w_gldN_tf ?_
                  | with_reducible refine w_gldN_ft ?_
                  | with_reducible refine w_gB_tt ?_
                  | with_reducible refine w_gB_ff ?_
                  | with_reducible refine w_bind un_not ?_
                  | with_reducible refine w_cond_t ?_
                  | with_reducible refine w_cond_f ?_
                  | with_reducible refine w_bind gV_u ?_
                  | with_reducible refine w_bind gB_u ?_
                  | with_reducible refine w_gld_u ?_)
                exact lay n s l H hn57 (by omega) h
            · refine w_bind (lss_f hjl) ?_
              repeat (first
                | with_reducible refine w_bind (pick_t _ _) ?_
                | with_reducible refine w_bind (pick_f _ _) ?_
                | with_reducible refine w_bind gV_tt ?_
                | with_reducible refine w_bind gV_ff ?_
                | with_reducible refine w_bind gV_tf ?_
                | with_reducible refine w_bind gV_ft ?_
                | with_reducible refine w_bind gB_tf ?_
                | with_reducible refine w_bind gB_ft ?_
                | with_reducible refine w_gE_tf ?_
                | with_reducible refine w_gE_ft ?_
                | with_reducible refine w_gE_tt ?_
                | with_reducible refine w_gE_ff ?_
                | with_reducible refine w_onK_tf ?_
                | with_reducible refine w_onK_ft ?_
                | with_reducible refine w_onK_tt ?_
                | with_reducible refine w_onK_ff ?_
                | with_reducible refine w_gld_tt ?_
                | with_reducible refine w_gld_ff ?_
                | with_reducible refine w_gld_tf ?_
                | with_reducible refine w_gld_ft ?_
                | with_reducible refine w_gldN_tt ?_
                | with_reducible refine w_gldN_ff ?_
                | with_reducible refine w_gldN_tf ?_
                | with_reducible refine w_gldN_ft ?_
                | with_reducible refine w_gB_tt ?_
                | with_reducible refine w_gB_ff ?_
                | with_reducible refine w_bind un_not ?_
                | with_reducible refine w_cond_t ?_
                | with_reducible refine w_cond_f ?_
                | with_reducible refine w_bind gV_u ?_
                | with_reducible refine w_bind gB_u ?_
                | with_reducible refine w_gld_u ?_)
              exact lay n s l H hn57 (by omega) h
          · refine w_bind (lss_f hil) ?_
            repeat (first
              | with_reducible refine w_bind (pick_t _ _) ?_
              | with_reducible refine w_bind (pick_f _ _) ?_
              | with_reducible refine w_bind gV_tt ?_
              | with_reducible refine w_bind gV_ff ?_
              | with_reducible refine w_bind gV_tf ?_
              | with_reducible refine w_bind gV_ft ?_
              | with_reducible refine w_bind gB_tf ?_
              | with_reducible refine w_bind gB_ft ?_
              | with_reducible refine w_gE_tf ?_
              | with_reducible refine w_gE_ft ?_
              | with_reducible refine w_gE_tt ?_
              | with_reducible refine w_gE_ff ?_
              | with_reducible refine w_onK_tf ?_
              | with_reducible refine w_onK_ft ?_
              | with_reducible refine w_onK_tt ?_
              | with_reducible refine w_onK_ff ?_
              | with_reducible refine w_gld_tt ?_
              | with_reducible refine w_gld_ff ?_
              | with_reducible refine w_gld_tf ?_
              | with_reducible refine w_gld_ft ?_
              | with_reducible refine w_gldN_tt ?_
              | with_reducible refine w_gldN_ff ?_
              | with_reducible refine w_gldN_tf ?_
              | with_reducible refine w_gldN_ft ?_
              | with_reducible refine w_gB_tt ?_
              | with_reducible refine w_gB_ff ?_
              | with_reducible refine w_bind un_not ?_
              | with_reducible refine w_cond_t ?_
              | with_reducible refine w_cond_f ?_
              | with_reducible refine w_bind gV_u ?_
              | with_reducible refine w_bind gB_u ?_
              | with_reducible refine w_gld_u ?_)
            exact lay n s l H hn57 (by omega) h
      have begin' : ∀ (s : Sv) (l : List Cl) (H : AH), l.length ≤ 3 → Holds (plS b4 b5 b6 ⟨sh, sl, k, wd, un⟩ pv ps (ts 4 Cl.cells s.v l * (blk b2 (.cells false (planV c v)) * (P * R)))) H →
          wp (play_Plan_k13 (vi 5) (vp b2) (vp b4) (vp b5) (vp b6) (vi n) (vi i) s.v H) (PlanQ P R) := by
        intro s l H hl h
        refine wp_eq (play_Plan_k13_eq _ _ _ _ _ _ _ _ H) ?_
        refine wp_eq (play_Plan_k20_eq _ _ _ _ _ _ _ _ _ H) ?_
        exact calls 5 0 n s l H (by omega) hn57 (by omega) h
      have none' : ∀ (H : AH), Holds (plS b4 b5 b6 ⟨sh, sl, k, wd, un⟩ pv ps (blk b2 (.cells false (planV c v)) * (P * R))) H → wp (play_Plan_k13 (vi 5) (vp b2) (vp b4) (vp b5) (vp b6) (vi n) (vi i) (.slice none 0 0) H) (PlanQ P R) := by
        intro H h
        refine begin' ⟨none, 0, 0⟩ [] H (by simp) ?_
        unfold plS at h ⊢
        have := ts_nil 4 Cl.cells h
        exact this.to
      by_cases hi0 : (i : Int) = 0
      · refine w_bind (eql_t hi0) ?_
        repeat (first
          | with_reducible refine w_bind (pick_t _ _) ?_
          | with_reducible refine w_bind (pick_f _ _) ?_
          | with_reducible refine w_bind gV_tt ?_
          | with_reducible refine w_bind gV_ff ?_
          | with_reducible refine w_bind gV_tf ?_
          | with_reducible refine w_bind gV_ft ?_
          | with_reducible refine w_bind gB_tf ?_
          | with_reducible refine w_bind gB_ft ?_
          | with_reducible refine w_gE_tf ?_
          | with_reducible refine w_gE_ft ?_
          | with_reducible refine w_gE_tt ?_
          | with_reducible refine w_gE_ff ?_
          | with_reducible refine w_onK_tf ?_
          | with_reducible refine w_onK_ft ?_
          | with_reducible refine w_onK_tt ?_
          | with_reducible refine w_onK_ff ?_
          | with_reducible refine w_gld_tt ?_
          | with_reducible refine w_gld_ff ?_
          | with_reducible refine w_gld_tf ?_
          | with_reducible refine w_gld_ft ?_
          | with_reducible refine w_gldN_tt ?_
          | with_reducible refine w_gldN_ff ?_
          | with_reducible refine w_gldN_tf ?_
          | with_reducible refine w_gldN_ft ?_
          | with_reducible refine w_gB_tt ?_
          | with_reducible refine w_gB_ff ?_
          | with_reducible refine w_bind un_not ?_
          | with_reducible refine w_cond_t ?_
          | with_reducible refine w_cond_f ?_
          | with_reducible refine w_bind gV_u ?_
          | with_reducible refine w_bind gB_u ?_
          | with_reducible refine w_gld_u ?_)
        refine w_ld h' (end_f (end_f end_nil)) rfl ?_
        refine w_call h' (play_mod c.wd 4 (by omega) (by omega)) fun _ H3 h3 => ?_
        repeat (first
          | with_reducible refine w_bind (pick_t _ _) ?_
          | with_reducible refine w_bind (pick_f _ _) ?_
          | with_reducible refine w_bind gV_tt ?_
          | with_reducible refine w_bind gV_ff ?_
          | with_reducible refine w_bind gV_tf ?_
          | with_reducible refine w_bind gV_ft ?_
          | with_reducible refine w_bind gB_tf ?_
          | with_reducible refine w_bind gB_ft ?_
          | with_reducible refine w_gE_tf ?_
          | with_reducible refine w_gE_ft ?_
          | with_reducible refine w_gE_tt ?_
          | with_reducible refine w_gE_ff ?_
          | with_reducible refine w_onK_tf ?_
          | with_reducible refine w_onK_ft ?_
          | with_reducible refine w_onK_tt ?_
          | with_reducible refine w_onK_ff ?_
          | with_reducible refine w_gld_tt ?_
          | with_reducible refine w_gld_ff ?_
          | with_reducible refine w_gld_tf ?_
          | with_reducible refine w_gld_ft ?_
          | with_reducible refine w_gldN_tt ?_
          | with_reducible refine w_gldN_ff ?_
          | with_reducible refine w_gldN_tf ?_
          | with_reducible refine w_gldN_ft ?_
          | with_reducible refine w_gB_tt ?_
          | with_reducible refine w_gB_ff ?_
          | with_reducible refine w_bind un_not ?_
          | with_reducible refine w_cond_t ?_
          | with_reducible refine w_cond_f ?_
          | with_reducible refine w_bind gV_u ?_
          | with_reducible refine w_bind gB_u ?_
          | with_reducible refine w_gld_u ?_)
        refine w_bind (bin_gtr) ?_
        repeat (first
          | with_reducible refine w_bind (pick_t _ _) ?_
          | with_reducible refine w_bind (pick_f _ _) ?_
          | with_reducible refine w_bind gV_tt ?_
          | with_reducible refine w_bind gV_ff ?_
          | with_reducible refine w_bind gV_tf ?_
          | with_reducible refine w_bind gV_ft ?_
          | with_reducible refine w_bind gB_tf ?_
          | with_reducible refine w_bind gB_ft ?_
          | with_reducible refine w_gE_tf ?_
          | with_reducible refine w_gE_ft ?_
          | with_reducible refine w_gE_tt ?_
          | with_reducible refine w_gE_ff ?_
          | with_reducible refine w_onK_tf ?_
          | with_reducible refine w_onK_ft ?_
          | with_reducible refine w_onK_tt ?_
          | with_reducible refine w_onK_ff ?_
          | with_reducible refine w_gld_tt ?_
          | with_reducible refine w_gld_ff ?_
          | with_reducible refine w_gld_tf ?_
          | with_reducible refine w_gld_ft ?_
          | with_reducible refine w_gldN_tt ?_
          | with_reducible refine w_gldN_ff ?_
          | with_reducible refine w_gldN_tf ?_
          | with_reducible refine w_gldN_ft ?_
          | with_reducible refine w_gB_tt ?_
          | with_reducible refine w_gB_ff ?_
          | with_reducible refine w_bind un_not ?_
          | with_reducible refine w_cond_t ?_
          | with_reducible refine w_cond_f ?_
          | with_reducible refine w_bind gV_u ?_
          | with_reducible refine w_bind gB_u ?_
          | with_reducible refine w_gld_u ?_)
        refine w_cond (fun _ => ?_) (fun _ => ?_)
        · refine w_call h3 play_ready fun s H4 h4 => ?_
          obtain ⟨l, h4b⟩ := Holds.ex.1 h4
          clear h4
          rw [sep_assoc, Holds.pu] at h4b
          obtain ⟨hl3, h4c⟩ := h4b
          refine begin' s l H4 (by omega) ?_
          unfold plS
          exact h4c.to
        · refine none' H3 ?_
          unfold plS
          exact h3.to
      · refine w_bind (eql_f hi0) ?_
        repeat (first
          | with_reducible refine w_bind (pick_t _ _) ?_
          | with_reducible refine w_bind (pick_f _ _) ?_
          | with_reducible refine w_bind gV_tt ?_
          | with_reducible refine w_bind gV_ff ?_
          | with_reducible refine w_bind gV_tf ?_
          | with_reducible refine w_bind gV_ft ?_
          | with_reducible refine w_bind gB_tf ?_
          | with_reducible refine w_bind gB_ft ?_
          | with_reducible refine w_gE_tf ?_
          | with_reducible refine w_gE_ft ?_
          | with_reducible refine w_gE_tt ?_
          | with_reducible refine w_gE_ff ?_
          | with_reducible refine w_onK_tf ?_
          | with_reducible refine w_onK_ft ?_
          | with_reducible refine w_onK_tt ?_
          | with_reducible refine w_onK_ff ?_
          | with_reducible refine w_gld_tt ?_
          | with_reducible refine w_gld_ff ?_
          | with_reducible refine w_gld_tf ?_
          | with_reducible refine w_gld_ft ?_
          | with_reducible refine w_gldN_tt ?_
          | with_reducible refine w_gldN_ff ?_
          | with_reducible refine w_gldN_tf ?_
          | with_reducible refine w_gldN_ft ?_
          | with_reducible refine w_gB_tt ?_
          | with_reducible refine w_gB_ff ?_
          | with_reducible refine w_bind un_not ?_
          | with_reducible refine w_cond_t ?_
          | with_reducible refine w_cond_f ?_
          | with_reducible refine w_bind gV_u ?_
          | with_reducible refine w_bind gB_u ?_
          | with_reducible refine w_gld_u ?_)
        exact none' H h
  exact outer k 0 57 (.slice none 0 0) [] H7 (by omega) (by omega) rfl (fun p hp => by cases hp) h8

/-! ### What is held against each other -/
theorem parts_tail [L : Ls P v ll] [Hs P 0 (.cells true tabC)] (c : Cfg) (hn : (ll.length : Int) < 9223372036854775808) (hb : ∀ l ∈ ll, l.length ≤ 140737488355328) (b : Nat) (x6 : Value) {H : AH} (h : Holds (blk b (.cells false (planV c v)) * P) H) :
    wp (l29_PaceParts_k1 (vp b) x6 H) fun v' _ => v' = vb true := by
  refine wp_eq (l29_PaceParts_k1_eq _ _ H) ?_
  refine wp_eq (l29_PaceParts_k2_eq _ _ _ H) ?_
  have last : ∀ H, Holds (blk b (.cells false (planV c v)) * P) H → wp (l29_PaceParts_k3 (vp b) x6 (vi (if mayB c ll then (partsN ll : Int) else 0)) H) fun v' _ => v' = vb true := by
    intro H h
    refine wp_eq (l29_PaceParts_k3_eq _ _ _ H) ?_
    refine w_awake h fun H1 h1 => ?_
    repeat (first
      | with_reducible refine w_bind (pick_t _ _) ?_
      | with_reducible refine w_bind (pick_f _ _) ?_
      | with_reducible refine w_bind gV_tt ?_
      | with_reducible refine w_bind gV_ff ?_
      | with_reducible refine w_bind gV_tf ?_
      | with_reducible refine w_bind gV_ft ?_
      | with_reducible refine w_bind gB_tf ?_
      | with_reducible refine w_bind gB_ft ?_
      | with_reducible refine w_gE_tf ?_
      | with_reducible refine w_gE_ft ?_
      | with_reducible refine w_gE_tt ?_
      | with_reducible refine w_gE_ff ?_
      | with_reducible refine w_onK_tf ?_
      | with_reducible refine w_onK_ft ?_
      | with_reducible refine w_onK_tt ?_
      | with_reducible refine w_onK_ff ?_
      | with_reducible refine w_gld_tt ?_
      | with_reducible refine w_gld_ff ?_
      | with_reducible refine w_gld_tf ?_
      | with_reducible refine w_gld_ft ?_
      | with_reducible refine w_gldN_tt ?_
      | with_reducible refine w_gldN_ff ?_
      | with_reducible refine w_gldN_tf ?_
      | with_reducible refine w_gldN_ft ?_
      | with_reducible refine w_gB_tt ?_
      | with_reducible refine w_gB_ff ?_
      | with_reducible refine w_bind un_not ?_
      | with_reducible refine w_cond_t ?_
      | with_reducible refine w_cond_f ?_
      | with_reducible refine w_bind gV_u ?_
      | with_reducible refine w_bind gB_u ?_
      | with_reducible refine w_gld_u ?_)
    refine w_LdN h1 ?_
    repeat (first
      | with_reducible refine w_bind (pick_t _ _) ?_
      | with_reducible refine w_bind (pick_f _ _) ?_
      | with_reducible refine w_bind gV_tt ?_
      | with_reducible refine w_bind gV_ff ?_
      | with_reducible refine w_bind gV_tf ?_
      | with_reducible refine w_bind gV_ft ?_
      | with_reducible refine w_bind gB_tf ?_
      | with_reducible refine w_bind gB_ft ?_
      | with_reducible refine w_gE_tf ?_
      | with_reducible refine w_gE_ft ?_
      | with_reducible refine w_gE_tt ?_
      | with_reducible refine w_gE_ff ?_
      | with_reducible refine w_onK_tf ?_
      | with_reducible refine w_onK_ft ?_
      | with_reducible refine w_onK_tt ?_
      | with_reducible refine w_onK_ff ?_
      | with_reducible refine w_gld_tt ?_
      | with_reducible refine w_gld_ff ?_
      | with_reducible refine w_gld_tf ?_
      | with_reducible refine w_gld_ft ?_
      | with_reducible refine w_gldN_tt ?_
      | with_reducible refine w_gldN_ff ?_
      | with_reducible refine w_gldN_tf ?_
      | with_reducible refine w_gldN_ft ?_
      | with_reducible refine w_gB_tt ?_
      | with_reducible refine w_gB_ff ?_
      | with_reducible refine w_bind un_not ?_
      | with_reducible refine w_cond_t ?_
      | with_reducible refine w_cond_f ?_
      | with_reducible refine w_bind gV_u ?_
      | with_reducible refine w_bind gB_u ?_
      | with_reducible refine w_gld_u ?_)
    refine w_ro h1 (pace_parts (v := v) (ll := ll) c hn (fun _ => hb)) fun H2 h2 => ?_
    repeat (first
      | with_reducible refine w_bind (pick_t _ _) ?_
      | with_reducible refine w_bind (pick_f _ _) ?_
      | with_reducible refine w_bind gV_tt ?_
      | with_reducible refine w_bind gV_ff ?_
      | with_reducible refine w_bind gV_tf ?_
      | with_reducible refine w_bind gV_ft ?_
      | with_reducible refine w_bind gB_tf ?_
      | with_reducible refine w_bind gB_ft ?_
      | with_reducible refine w_gE_tf ?_
      | with_reducible refine w_gE_ft ?_
      | with_reducible refine w_gE_tt ?_
      | with_reducible refine w_gE_ff ?_
      | with_reducible refine w_onK_tf ?_
      | with_reducible refine w_onK_ft ?_
      | with_reducible refine w_onK_tt ?_
      | with_reducible refine w_onK_ff ?_
      | with_reducible refine w_gld_tt ?_
      | with_reducible refine w_gld_ff ?_
      | with_reducible refine w_gld_tf ?_
      | with_reducible refine w_gld_ft ?_
      | with_reducible refine w_gldN_tt ?_
      | with_reducible refine w_gldN_ff ?_
      | with_reducible refine w_gldN_tf ?_
      | with_reducible refine w_gldN_ft ?_
      | with_reducible refine w_gB_tt ?_
      | with_reducible refine w_gB_ff ?_
      | with_reducible refine w_bind un_not ?_
      | with_reducible refine w_cond_t ?_
      | with_reducible refine w_cond_f ?_
      | with_reducible refine w_bind gV_u ?_
      | with_reducible refine w_bind gB_u ?_
      | with_reducible refine w_gld_u ?_)
    refine w_bind (eql_t rfl) ?_
    repeat (first
      | with_reducible refine w_bind (pick_t _ _) ?_
      | with_reducible refine w_bind (pick_f _ _) ?_
      | with_reducible refine w_bind gV_tt ?_
      | with_reducible refine w_bind gV_ff ?_
      | with_reducible refine w_bind gV_tf ?_
      | with_reducible refine w_bind gV_ft ?_
      | with_reducible refine w_bind gB_tf ?_
      | with_reducible refine w_bind gB_ft ?_
      | with_reducible refine w_gE_tf ?_
      | with_reducible refine w_gE_ft ?_
      | with_reducible refine w_gE_tt ?_
      | with_reducible refine w_gE_ff ?_
      | with_reducible refine w_onK_tf ?_
      | with_reducible refine w_onK_ft ?_
      | with_reducible refine w_onK_tt ?_
      | with_reducible refine w_onK_ff ?_
      | with_reducible refine w_gld_tt ?_
      | with_reducible refine w_gld_ff ?_
      | with_reducible refine w_gld_tf ?_
      | with_reducible refine w_gld_ft ?_
      | with_reducible refine w_gldN_tt ?_
      | with_reducible refine w_gldN_ff ?_
      | with_reducible refine w_gldN_tf ?_
      | with_reducible refine w_gldN_ft ?_
      | with_reducible refine w_gB_tt ?_
      | with_reducible refine w_gB_ff ?_
      | with_reducible refine w_bind un_not ?_
      | with_reducible refine w_cond_t ?_
      | with_reducible refine w_cond_f ?_
      | with_reducible refine w_bind gV_u ?_
      | with_reducible refine w_bind gB_u ?_
      | with_reducible refine w_gld_u ?_)
    refine w_LdN h2 ?_
    repeat (first
      | with_reducible refine w_bind (pick_t _ _) ?_
      | with_reducible refine w_bind (pick_f _ _) ?_
      | with_reducible refine w_bind gV_tt ?_
      | with_reducible refine w_bind gV_ff ?_
      | with_reducible refine w_bind gV_tf ?_
      | with_reducible refine w_bind gV_ft ?_
      | with_reducible refine w_bind gB_tf ?_
      | with_reducible refine w_bind gB_ft ?_
      | with_reducible refine w_gE_tf ?_
      | with_reducible refine w_gE_ft ?_
      | with_reducible refine w_gE_tt ?_
      | with_reducible refine w_gE_ff ?_
      | with_reducible refine w_onK_tf ?_
      | with_reducible refine w_onK_ft ?_
      | with_reducible refine w_onK_tt ?_
      | with_reducible refine w_onK_ff ?_
      | with_reducible refine w_gld_tt ?_
      | with_reducible refine w_gld_ff ?_
      | with_reducible refine w_gld_tf ?_
      | with_reducible refine w_gld_ft ?_
      | with_reducible refine w_gldN_tt ?_
      | with_reducible refine w_gldN_ff ?_
      | with_reducible refine w_gldN_tf ?_
      | with_reducible refine w_gldN_ft ?_
      | with_reducible refine w_gB_tt ?_
      | with_reducible refine w_gB_ff ?_
      | with_reducible refine w_bind un_not ?_
      | with_reducible refine w_cond_t ?_
      | with_reducible refine w_cond_f ?_
      | with_reducible refine w_bind gV_u ?_
      | with_reducible refine w_bind gB_u ?_
      | with_reducible refine w_gld_u ?_)
    refine w_ro h2 (pace_bound (v := v) (ll := ll) c hn (fun _ => hb)) fun H3 h3 => ?_
    repeat (first
      | with_reducible refine w_bind (pick_t _ _) ?_
      | with_reducible refine w_bind (pick_f _ _) ?_
      | with_reducible refine w_bind gV_tt ?_
      | with_reducible refine w_bind gV_ff ?_
      | with_reducible refine w_bind gV_tf ?_
      | with_reducible refine w_bind gV_ft ?_
      | with_reducible refine w_bind gB_tf ?_
      | with_reducible refine w_bind gB_ft ?_
      | with_reducible refine w_gE_tf ?_
      | with_reducible refine w_gE_ft ?_
      | with_reducible refine w_gE_tt ?_
      | with_reducible refine w_gE_ff ?_
      | with_reducible refine w_onK_tf ?_
      | with_reducible refine w_onK_ft ?_
      | with_reducible refine w_onK_tt ?_
      | with_reducible refine w_onK_ff ?_
      | with_reducible refine w_gld_tt ?_
      | with_reducible refine w_gld_ff ?_
      | with_reducible refine w_gld_tf ?_
      | with_reducible refine w_gld_ft ?_
      | with_reducible refine w_gldN_tt ?_
      | with_reducible refine w_gldN_ff ?_
      | with_reducible refine w_gldN_tf ?_
      | with_reducible refine w_gldN_ft ?_
      | with_reducible refine w_gB_tt ?_
      | with_reducible refine w_gB_ff ?_
      | with_reducible refine w_bind un_not ?_
      | with_reducible refine w_cond_t ?_
      | with_reducible refine w_cond_f ?_
      | with_reducible refine w_bind gV_u ?_
      | with_reducible refine w_bind gB_u ?_
      | with_reducible refine w_gld_u ?_)
    refine w_LdN h3 ?_
    refine w_eqN h2 h3 rfl ?_
    repeat (first
      | with_reducible refine w_bind (pick_t _ _) ?_
      | with_reducible refine w_bind (pick_f _ _) ?_
      | with_reducible refine w_bind gV_tt ?_
      | with_reducible refine w_bind gV_ff ?_
      | with_reducible refine w_bind gV_tf ?_
      | with_reducible refine w_bind gV_ft ?_
      | with_reducible refine w_bind gB_tf ?_
      | with_reducible refine w_bind gB_ft ?_
      | with_reducible refine w_gE_tf ?_
      | with_reducible refine w_gE_ft ?_
      | with_reducible refine w_gE_tt ?_
      | with_reducible refine w_gE_ff ?_
      | with_reducible refine w_onK_tf ?_
      | with_reducible refine w_onK_ft ?_
      | with_reducible refine w_onK_tt ?_
      | with_reducible refine w_onK_ff ?_
      | with_reducible refine w_gld_tt ?_
      | with_reducible refine w_gld_ff ?_
      | with_reducible refine w_gld_tf ?_
      | with_reducible refine w_gld_ft ?_
      | with_reducible refine w_gldN_tt ?_
      | with_reducible refine w_gldN_ff ?_
      | with_reducible refine w_gldN_tf ?_
      | with_reducible refine w_gldN_ft ?_
      | with_reducible refine w_gB_tt ?_
      | with_reducible refine w_gB_ff ?_
      | with_reducible refine w_bind un_not ?_
      | with_reducible refine w_cond_t ?_
      | with_reducible refine w_cond_f ?_
      | with_reducible refine w_bind gV_u ?_
      | with_reducible refine w_bind gB_u ?_
      | with_reducible refine w_gld_u ?_)
    refine w_ro h3 (r27_bound (v := v) (ll := ll) c hb) fun H4 h4 => ?_
    repeat (first
      | with_reducible refine w_bind (pick_t _ _) ?_
      | with_reducible refine w_bind (pick_f _ _) ?_
      | with_reducible refine w_bind gV_tt ?_
      | with_reducible refine w_bind gV_ff ?_
      | with_reducible refine w_bind gV_tf ?_
      | with_reducible refine w_bind gV_ft ?_
      | with_reducible refine w_bind gB_tf ?_
      | with_reducible refine w_bind gB_ft ?_
      | with_reducible refine w_gE_tf ?_
      | with_reducible refine w_gE_ft ?_
      | with_reducible refine w_gE_tt ?_
      | with_reducible refine w_gE_ff ?_
      | with_reducible refine w_onK_tf ?_
      | with_reducible refine w_onK_ft ?_
      | with_reducible refine w_onK_tt ?_
      | with_reducible refine w_onK_ff ?_
      | with_reducible refine w_gld_tt ?_
      | with_reducible refine w_gld_ff ?_
      | with_reducible refine w_gld_tf ?_
      | with_reducible refine w_gld_ft ?_
      | with_reducible refine w_gldN_tt ?_
      | with_reducible refine w_gldN_ff ?_
      | with_reducible refine w_gldN_tf ?_
      | with_reducible refine w_gldN_ft ?_
      | with_reducible refine w_gB_tt ?_
      | with_reducible refine w_gB_ff ?_
      | with_reducible refine w_bind un_not ?_
      | with_reducible refine w_cond_t ?_
      | with_reducible refine w_cond_f ?_
      | with_reducible refine w_bind gV_u ?_
      | with_reducible refine w_bind gB_u ?_
      | with_reducible refine w_gld_u ?_)
    refine w_bind (eql_t rfl) ?_
    repeat (first
      | with_reducible refine w_bind (pick_t _ _) ?_
      | with_reducible refine w_bind (pick_f _ _) ?_
      | with_reducible refine w_bind gV_tt ?_
      | with_reducible refine w_bind gV_ff ?_
      | with_reducible refine w_bind gV_tf ?_
      | with_reducible refine w_bind gV_ft ?_
      | with_reducible refine w_bind gB_tf ?_
      | with_reducible refine w_bind gB_ft ?_
      | with_reducible refine w_gE_tf ?_
      | with_reducible refine w_gE_ft ?_
      | with_reducible refine w_gE_tt ?_
      | with_reducible refine w_gE_ff ?_
      | with_reducible refine w_onK_tf ?_
      | with_reducible refine w_onK_ft ?_
      | with_reducible refine w_onK_tt ?_
      | with_reducible refine w_onK_ff ?_
      | with_reducible refine w_gld_tt ?_
      | with_reducible refine w_gld_ff ?_
      | with_reducible refine w_gld_tf ?_
      | with_reducible refine w_gld_ft ?_
      | with_reducible refine w_gldN_tt ?_
      | with_reducible refine w_gldN_ff ?_
      | with_reducible refine w_gldN_tf ?_
      | with_reducible refine w_gldN_ft ?_
      | with_reducible refine w_gB_tt ?_
      | with_reducible refine w_gB_ff ?_
      | with_reducible refine w_bind un_not ?_
      | with_reducible refine w_cond_t ?_
      | with_reducible refine w_cond_f ?_
      | with_reducible refine w_bind gV_u ?_
      | with_reducible refine w_bind gB_u ?_
      | with_reducible refine w_gld_u ?_)
    exact w_ret rfl
  refine w_LdN h ?_
  refine w_ro h (r16_may (v := v) (ll := ll) c hb) fun H1 h1 => ?_
  cases hm : mayB c ll with
  | true =>
    repeat (first
      | with_reducible refine w_bind (pick_t _ _) ?_
      | with_reducible refine w_bind (pick_f _ _) ?_
      | with_reducible refine w_bind gV_tt ?_
      | with_reducible refine w_bind gV_ff ?_
      | with_reducible refine w_bind gV_tf ?_
      | with_reducible refine w_bind gV_ft ?_
      | with_reducible refine w_bind gB_tf ?_
      | with_reducible refine w_bind gB_ft ?_
      | with_reducible refine w_gE_tf ?_
      | with_reducible refine w_gE_ft ?_
      | with_reducible refine w_gE_tt ?_
      | with_reducible refine w_gE_ff ?_
      | with_reducible refine w_onK_tf ?_
      | with_reducible refine w_onK_ft ?_
      | with_reducible refine w_onK_tt ?_
      | with_reducible refine w_onK_ff ?_
      | with_reducible refine w_gld_tt ?_
      | with_reducible refine w_gld_ff ?_
      | with_reducible refine w_gld_tf ?_
      | with_reducible refine w_gld_ft ?_
      | with_reducible refine w_gldN_tt ?_
      | with_reducible refine w_gldN_ff ?_
      | with_reducible refine w_gldN_tf ?_
      | with_reducible refine w_gldN_ft ?_
      | with_reducible refine w_gB_tt ?_
      | with_reducible refine w_gB_ff ?_
      | with_reducible refine w_bind un_not ?_
      | with_reducible refine w_cond_t ?_
      | with_reducible refine w_cond_f ?_
      | with_reducible refine w_bind gV_u ?_
      | with_reducible refine w_bind gB_u ?_
      | with_reducible refine w_gld_u ?_)
    obtain ⟨hc, hlw, hs⟩ := mayB_iff.1 hm
    have hc := rightB_iff.1 hc
    refine w_LdN h1 ?_
    refine w_ro h1 (r27_parts (v := v) (ll := ll) c (by omega) hs) fun H2 h2 => ?_
    have := last H2 h2
    rw [hm] at this
    exact this
  | false =>
    repeat (first
      | with_reducible refine w_bind (pick_t _ _) ?_
      | with_reducible refine w_bind (pick_f _ _) ?_
      | with_reducible refine w_bind gV_tt ?_
      | with_reducible refine w_bind gV_ff ?_
      | with_reducible refine w_bind gV_tf ?_
      | with_reducible refine w_bind gV_ft ?_
      | with_reducible refine w_bind gB_tf ?_
      | with_reducible refine w_bind gB_ft ?_
      | with_reducible refine w_gE_tf ?_
      | with_reducible refine w_gE_ft ?_
      | with_reducible refine w_gE_tt ?_
      | with_reducible refine w_gE_ff ?_
      | with_reducible refine w_onK_tf ?_
      | with_reducible refine w_onK_ft ?_
      | with_reducible refine w_onK_tt ?_
      | with_reducible refine w_onK_ff ?_
      | with_reducible refine w_gld_tt ?_
      | with_reducible refine w_gld_ff ?_
      | with_reducible refine w_gld_tf ?_
      | with_reducible refine w_gld_ft ?_
      | with_reducible refine w_gldN_tt ?_
      | with_reducible refine w_gldN_ff ?_
      | with_reducible refine w_gldN_tf ?_
      | with_reducible refine w_gldN_ft ?_
      | with_reducible refine w_gB_tt ?_
      | with_reducible refine w_gB_ff ?_
      | with_reducible refine w_bind un_not ?_
      | with_reducible refine w_cond_t ?_
      | with_reducible refine w_cond_f ?_
      | with_reducible refine w_bind gV_u ?_
      | with_reducible refine w_bind gB_u ?_
      | with_reducible refine w_gld_u ?_)
    have := last H1 h1
    rw [hm] at this
    exact this
end

theorem paceParts {H0 : AH} {v bv : Value} {ll : List (List Cl)} {bs : List Int} [L : Ls (fix H0) v ll] (hT : H0.get 0 = some (.cells true tabC)) (hbs : Abs H0 (.slice (.int .i64)) bs [bv]) (hn : (ll.length : Int) < 9223372036854775808) (hb : ∀ l ∈ ll, l.length ≤ 140737488355328) (c : Cfg) (near : Bool) :
    ∃ H', FF n_l29_PaceParts [.agg (planV c v).toArray, vb near, bv] H0 = some (vb true, H') := by
  have key : wp (FF n_l29_PaceParts [.agg (planV c v).toArray, vb near, bv] H0) fun v' _ => v' = vb true := by
    haveI := args_tab hT
    haveI := args_ints hbs
    refine wp_of (fun r => l29_PaceParts_of _ _ _ H0) ?_
    refine w_newC (fix_holds H0) fun b H1 h1 => ?_
    refine wp_eq (l29_PaceParts_k0_eq _ _ _ _ H1) ?_
    refine wp_eq (l29_PaceParts_k20_eq _ _ _ _ H1) ?_
    cases near with
    | false =>
      repeat (first
        | with_reducible refine w_bind (pick_t _ _) ?_
        | with_reducible refine w_bind (pick_f _ _) ?_
        | with_reducible refine w_bind gV_tt ?_
        | with_reducible refine w_bind gV_ff ?_
        | with_reducible refine w_bind gV_tf ?_
        | with_reducible refine w_bind gV_ft ?_
        | with_reducible refine w_bind gB_tf ?_
        | with_reducible refine w_bind gB_ft ?_
        | with_reducible refine w_gE_tf ?_
        | with_reducible refine w_gE_ft ?_
        | with_reducible refine w_gE_tt ?_
        | with_reducible refine w_gE_ff ?_
        | with_reducible refine w_onK_tf ?_
        | with_reducible refine w_onK_ft ?_
        | with_reducible refine w_onK_tt ?_
        | with_reducible refine w_onK_ff ?_
        | with_reducible refine w_gld_tt ?_
        | with_reducible refine w_gld_ff ?_
        | with_reducible refine w_gld_tf ?_
        | with_reducible refine w_gld_ft ?_
        | with_reducible refine w_gldN_tt ?_
        | with_reducible refine w_gldN_ff ?_
        | with_reducible refine w_gldN_tf ?_
        | with_reducible refine w_gldN_ft ?_
        | with_reducible refine w_gB_tt ?_
        | with_reducible refine w_gB_ff ?_
        | with_reducible refine w_bind un_not ?_
        | with_reducible refine w_cond_t ?_
        | with_reducible refine w_cond_f ?_
        | with_reducible refine w_bind gV_u ?_
        | with_reducible refine w_bind gB_u ?_
        | with_reducible refine w_gld_u ?_)
      exact parts_tail (v := v) (ll := ll) c hn hb b _ h1
    | true =>
      repeat (first
        | with_reducible refine w_bind (pick_t _ _) ?_
        | with_reducible refine w_bind (pick_f _ _) ?_
        | with_reducible refine w_bind gV_tt ?_
        | with_reducible refine w_bind gV_ff ?_
        | with_reducible refine w_bind gV_tf ?_
        | with_reducible refine w_bind gV_ft ?_
        | with_reducible refine w_bind gB_tf ?_
        | with_reducible refine w_bind gB_ft ?_
        | with_reducible refine w_gE_tf ?_
        | with_reducible refine w_gE_ft ?_
        | with_reducible refine w_gE_tt ?_
        | with_reducible refine w_gE_ff ?_
        | with_reducible refine w_onK_tf ?_
        | with_reducible refine w_onK_ft ?_
        | with_reducible refine w_onK_tt ?_
        | with_reducible refine w_onK_ff ?_
        | with_reducible refine w_gld_tt ?_
        | with_reducible refine w_gld_ff ?_
        | with_reducible refine w_gld_tf ?_
        | with_reducible refine w_gld_ft ?_
        | with_reducible refine w_gldN_tt ?_
        | with_reducible refine w_gldN_ff ?_
        | with_reducible refine w_gldN_tf ?_
        | with_reducible refine w_gldN_ft ?_
        | with_reducible refine w_gB_tt ?_
        | with_reducible refine w_gB_ff ?_
        | with_reducible refine w_bind un_not ?_
        | with_reducible refine w_cond_t ?_
        | with_reducible refine w_cond_f ?_
        | with_reducible refine w_bind gV_u ?_
        | with_reducible refine w_bind gB_u ?_
        | with_reducible refine w_gld_u ?_)
      refine w_LdN h1 ?_
      refine w_call h1 (play_plan (P := fix H0) (v := v) (ll := ll) c hn (fun l hl => by have := hb l hl; omega)) fun y H2 h2 => ?_
      obtain ⟨⟨sh, sl, wk, wd, un⟩, pv⟩ := y
      rw [sep_assoc] at h2
      obtain ⟨ps, h2b⟩ := Holds.ex.1 h2
      clear h2
      rw [sep_assoc, Holds.pu] at h2b
      obtain ⟨⟨hr, hpl, hps⟩, h2c⟩ := h2b
      dsimp only at hr hpl hps h2c
      dsimp only
      have hc := rightB_iff.1 hr
      dsimp only at hc
      refine w_St h2c rfl rfl fun H3 h3 => ?_
      refine wp_eq (l29_PaceParts_k21_eq _ _ _ _ H3) ?_
      have loop : ∀ (d i : Nat) (ps : List (Sv × List Cl)) (H : AH), i + d = min bs.length 30 → (ps.length : Int) = wk → (∀ p ∈ ps, p.2.length ≤ 8 + i) → Holds (blk b (.cells false (planV ⟨sh, sl, wk, wd, un⟩ pv.v)) * (ts 1 encS pv.v (ps.map (·.1)) * (rowsS ps * fix H0))) H →
          wp (l29_PaceParts_k23 bv (vp b) (vb false) (vi i) H) fun v' _ => v' = vb true := by
        intro d
        induction d with
        | zero =>
          intro i ps H hi hp hps h
          refine wp_eq (l29_PaceParts_k23_eq _ _ _ _ H) ?_
          refine w_rlen (s := bv) (l := bs) h ?_
          have stop : wp (l29_PaceParts_e22_0 (vp b) (vb false) H) fun v' _ => v' = vb true := by
            refine wp_eq (l29_PaceParts_e22_0_eq _ _ H) ?_
            have h' : Holds (blk b (.cells false (planV ⟨sh, sl, wk, wd, un⟩ pv.v)) * (lsS pv.v ps * fix H0)) H := by
              unfold lsS
              exact h.to
            refine parts_tail (P := lsS pv.v ps * fix H0) (v := pv.v) (ll := ps.map fun x : Sv × List Cl => x.2) ⟨sh, sl, wk, wd, un⟩ (by first | (simp; done) | (simp; omega)) (fun l hl => ?_) b _ h'
            obtain ⟨p, hp, rfl⟩ := List.mem_map.1 hl
            have := hps p hp
            omega
          by_cases hil : (i : Int) < bs.length
          · refine w_bind (lss_t hil) ?_
            repeat (first
              | with_reducible refine w_bind (pick_t _ _) ?_
              | with_reducible refine w_bind (pick_f _ _) ?_
              | with_reducible refine w_bind gV_tt ?_
              | with_reducible refine w_bind gV_ff ?_
              | with_reducible refine w_bind gV_tf ?_
              | with_reducible refine w_bind gV_ft ?_
              | with_reducible refine w_bind gB_tf ?_
              | with_reducible refine w_bind gB_ft ?_
              | with_reducible refine w_gE_tf ?_
              | with_reducible refine w_gE_ft ?_
              | with_reducible refine w_gE_tt ?_
              | with_reducible refine w_gE_ff ?_
              | with_reducible refine w_onK_tf ?_
              | with_reducible refine w_onK_ft ?_
              | with_reducible refine w_onK_tt ?_
              | with_reducible refine w_onK_ff ?_
              | with_reducible refine w_gld_tt ?_
              | with_reducible refine w_gld_ff ?_
              | with_reducible refine w_gld_tf ?_
              | with_reducible refine w_gld_ft ?_
              | with_reducible refine w_gldN_tt ?_
              | with_reducible refine w_gldN_ff ?_
              | with_reducible refine w_gldN_tf ?_
              | with_reducible refine w_gldN_ft ?_
              | with_reducible refine w_gB_tt ?_
              | with_reducible refine w_gB_ff ?_
              | with_reducible refine w_bind un_not ?_
              | with_reducible refine w_cond_t ?_
              | with_reducible refine w_cond_f ?_
              | with_reducible refine w_bind gV_u ?_
              | with_reducible refine w_bind gB_u ?_
              | with_reducible refine w_gld_u ?_)
            refine w_bind (lss_f (by omega)) ?_
            repeat (first
              | with_reducible refine w_bind (pick_t _ _) ?_
              | with_reducible refine w_bind (pick_f _ _) ?_
              | with_reducible refine w_bind gV_tt ?_
              | with_reducible refine w_bind gV_ff ?_
              | with_reducible refine w_bind gV_tf ?_
              | with_reducible refine w_bind gV_ft ?_
              | with_reducible refine w_bind gB_tf ?_
              | with_reducible refine w_bind gB_ft ?_
              | with_reducible refine w_gE_tf ?_
              | with_reducible refine w_gE_ft ?_
              | with_reducible refine w_gE_tt ?_
              | with_reducible refine w_gE_ff ?_
              | with_reducible refine w_onK_tf ?_
              | with_reducible refine w_onK_ft ?_
              | with_reducible refine w_onK_tt ?_
              | with_reducible refine w_onK_ff ?_
              | with_reducible refine w_gld_tt ?_
              | with_reducible refine w_gld_ff ?_
              | with_reducible refine w_gld_tf ?_
              | with_reducible refine w_gld_ft ?_
              | with_reducible refine w_gldN_tt ?_
              | with_reducible refine w_gldN_ff ?_
              | with_reducible refine w_gldN_tf ?_
              | with_reducible refine w_gldN_ft ?_
              | with_reducible refine w_gB_tt ?_
              | with_reducible refine w_gB_ff ?_
              | with_reducible refine w_bind un_not ?_
              | with_reducible refine w_cond_t ?_
              | with_reducible refine w_cond_f ?_
              | with_reducible refine w_bind gV_u ?_
              | with_reducible refine w_bind gB_u ?_
              | with_reducible refine w_gld_u ?_)
            exact stop
          · refine w_bind (lss_f hil) ?_
            repeat (first
              | with_reducible refine w_bind (pick_t _ _) ?_
              | with_reducible refine w_bind (pick_f _ _) ?_
              | with_reducible refine w_bind gV_tt ?_
              | with_reducible refine w_bind gV_ff ?_
              | with_reducible refine w_bind gV_tf ?_
              | with_reducible refine w_bind gV_ft ?_
              | with_reducible refine w_bind gB_tf ?_
              | with_reducible refine w_bind gB_ft ?_
              | with_reducible refine w_gE_tf ?_
              | with_reducible refine w_gE_ft ?_
              | with_reducible refine w_gE_tt ?_
              | with_reducible refine w_gE_ff ?_
              | with_reducible refine w_onK_tf ?_
              | with_reducible refine w_onK_ft ?_
              | with_reducible refine w_onK_tt ?_
              | with_reducible refine w_onK_ff ?_
              | with_reducible refine w_gld_tt ?_
              | with_reducible refine w_gld_ff ?_
              | with_reducible refine w_gld_tf ?_
              | with_reducible refine w_gld_ft ?_
              | with_reducible refine w_gldN_tt ?_
              | with_reducible refine w_gldN_ff ?_
              | with_reducible refine w_gldN_tf ?_
              | with_reducible refine w_gldN_ft ?_
              | with_reducible refine w_gB_tt ?_
              | with_reducible refine w_gB_ff ?_
              | with_reducible refine w_bind un_not ?_
              | with_reducible refine w_cond_t ?_
              | with_reducible refine w_cond_f ?_
              | with_reducible refine w_bind gV_u ?_
              | with_reducible refine w_bind gB_u ?_
              | with_reducible refine w_gld_u ?_)
            exact stop
        | succ d ih =>
          intro i ps H hi hp hps h
          have hil : i < bs.length := by omega
          refine wp_eq (l29_PaceParts_k23_eq _ _ _ _ H) ?_
          refine w_rlen (s := bv) (l := bs) h ?_
          refine w_bind (lss_t (by omega)) ?_
          repeat (first
            | with_reducible refine w_bind (pick_t _ _) ?_
            | with_reducible refine w_bind (pick_f _ _) ?_
            | with_reducible refine w_bind gV_tt ?_
            | with_reducible refine w_bind gV_ff ?_
            | with_reducible refine w_bind gV_tf ?_
            | with_reducible refine w_bind gV_ft ?_
            | with_reducible refine w_bind gB_tf ?_
            | with_reducible refine w_bind gB_ft ?_
            | with_reducible refine w_gE_tf ?_
            | with_reducible refine w_gE_ft ?_
            | with_reducible refine w_gE_tt ?_
            | with_reducible refine w_gE_ff ?_
            | with_reducible refine w_onK_tf ?_
            | with_reducible refine w_onK_ft ?_
            | with_reducible refine w_onK_tt ?_
            | with_reducible refine w_onK_ff ?_
            | with_reducible refine w_gld_tt ?_
            | with_reducible refine w_gld_ff ?_
            | with_reducible refine w_gld_tf ?_
            | with_reducible refine w_gld_ft ?_
            | with_reducible refine w_gldN_tt ?_
            | with_reducible refine w_gldN_ff ?_
            | with_reducible refine w_gldN_tf ?_
            | with_reducible refine w_gldN_ft ?_
            | with_reducible refine w_gB_tt ?_
            | with_reducible refine w_gB_ff ?_
            | with_reducible refine w_bind un_not ?_
            | with_reducible refine w_cond_t ?_
            | with_reducible refine w_cond_f ?_
            | with_reducible refine w_bind gV_u ?_
            | with_reducible refine w_bind gB_u ?_
            | with_reducible refine w_gld_u ?_)
          refine w_bind (lss_t (by omega)) ?_
          repeat (first
            | with_reducible refine w_bind (pick_t _ _) ?_
            | with_reducible refine w_bind (pick_f _ _) ?_
            | with_reducible refine w_bind gV_tt ?_
            | with_reducible refine w_bind gV_ff ?_
            | with_reducible refine w_bind gV_tf ?_
            | with_reducible refine w_bind gV_ft ?_
            | with_reducible refine w_bind gB_tf ?_
            | with_reducible refine w_bind gB_ft ?_
            | with_reducible refine w_gE_tf ?_
            | with_reducible refine w_gE_ft ?_
            | with_reducible refine w_gE_tt ?_
            | with_reducible refine w_gE_ff ?_
            | with_reducible refine w_onK_tf ?_
            | with_reducible refine w_onK_ft ?_
            | with_reducible refine w_onK_tt ?_
            | with_reducible refine w_onK_ff ?_
            | with_reducible refine w_gld_tt ?_
            | with_reducible refine w_gld_ff ?_
            | with_reducible refine w_gld_tf ?_
            | with_reducible refine w_gld_ft ?_
            | with_reducible refine w_gldN_tt ?_
            | with_reducible refine w_gldN_ff ?_
            | with_reducible refine w_gldN_tf ?_
            | with_reducible refine w_gldN_ft ?_
            | with_reducible refine w_gB_tt ?_
            | with_reducible refine w_gB_ff ?_
            | with_reducible refine w_bind un_not ?_
            | with_reducible refine w_cond_t ?_
            | with_reducible refine w_cond_f ?_
            | with_reducible refine w_bind gV_u ?_
            | with_reducible refine w_bind gB_u ?_
            | with_reducible refine w_gld_u ?_)
          refine wp_eq (l29_PaceParts_k24_eq _ _ _ _ H) ?_
          refine w_ld h end_f0 rfl ?_
          refine w_tlen (s := pv.v) h ?_
          have hlen : (ps.map (·.1)).length = ps.length := by simp
          refine w_call h (play_mod i ((ps.map (·.1)).length : Nat) (by omega) (by omega)) fun _ H4 h4 => ?_
          have hm := modI_lt (v := i) (n := ((ps.map (·.1)).length : Nat)) (by omega)
          obtain ⟨q, hq⟩ : ∃ q : Nat, modI i ((ps.map (·.1)).length : Nat) = q := ⟨(modI i ((ps.map (·.1)).length : Nat)).toNat, by omega⟩
          rw [hq]
          have hqk : q < ps.length := by omega
          have hqm : q < (ps.map (·.1)).length := by omega
          have hv : encS ((ps.map (·.1))[q]) = [(ps[q]).1.v] := by simp
          obtain ⟨Rr, e1, e2⟩ := rowsS_split hqk
          have hrow := hps ps[q] (List.getElem_mem hqk)
          rw [e1] at h4
          refine w_ad end_f0 ?_
          refine w_Ld1 h4 rfl ?_
          refine w_ld h4 end_f0 rfl ?_
          refine w_rld1 (s := pv.v) (l := ps.map fun x : Sv × List Cl => x.1) h4 hqm hv ?_
          refine w_rld1 (s := bv) (l := bs) h4 hil rfl ?_
          refine w_S ?_
          refine w_R h4 fun b0 H5 h5 => ?_
          refine w_tapp (⟨5, 0, bs[i], 0⟩ : Cl) h5 rfl ?_ (by omega) fun a cc H6 h6 => ?_
          · unfold room; omega
          refine w_eq1 h6 h4 rfl ?_
          refine w_tst (⟨a, (ps[q]).2.length + 1, cc⟩ : Sv) h6 (i := q) hqm (.inl ⟨rfl, rfl⟩) rfl (by omega) rfl rfl fun H7 h7 => ?_
          refine wp_eq (l29_PaceParts_k25_eq _ _ _ _ H7) ?_
          refine w_bind (bin_add_i (by omega) (by omega)) ?_
          refine ih (i + 1) (ps.set q (⟨a, (ps[q]).2.length + 1, cc⟩, (ps[q]).2 ++ [⟨5, 0, bs[i], 0⟩])) H7 (by omega) (by simpa using hp) (fun p hp' => ?_) ?_
          · rcases List.mem_or_eq_of_mem_set hp' with hp' | rfl
            · have := hps p hp'; omega
            · first | (simp; done) | (simp; omega)
          · rw [e2, List.map_set]
            exact h7.to
      refine loop (min bs.length 30) 0 ps H3 (by omega) hpl (fun p hp => by have := hps p hp; omega) ?_
      unfold lsS at h3
      exact h3.to
  obtain ⟨v', H', e, rfl⟩ := key
  exact ⟨H', e⟩
abbrev PlanTy : Ty := .pair CfgTy (.pair (.slice (.slice ClTy)) .unit)
theorem paceParts_args {H0 : AH} (hT : H0.get 0 = some (.cells true tabC)) {xp : PlanTy.I} {cp : List Value} (hp : Abs H0 PlanTy xp cp) (hs : Small PlanTy xp) (near : Bool) {bs : List Int} {bv : Value} (hbs : Abs H0 (.slice (.int .i64)) bs [bv]) :
    ∃ H', FF n_l29_PaceParts [.agg cp.toArray, vb near, bv] H0 = some (vb true, H') := by
  obtain ⟨c1, c2, rfl, h1, c3, c4, rfl, h2, h3⟩ := hp
  have h3 : c4 = [] := h3
  obtain ⟨c, rfl⟩ := cfg_abs h1
  have hv : ∃ v, c3 = [v] := by
    rcases h2 with ⟨_, rfl⟩ | ⟨_, b, rfl⟩ | ⟨b, row, _, rfl, _⟩ <;> exact ⟨_, rfl⟩
  obtain ⟨v, rfl⟩ := hv
  subst h3
  obtain ⟨hl, hi⟩ := args_lists h2
  haveI := hl
  have hm : maxLen = 9223372036854775807 := by decide
  have hr : reachBytes = 140737488351232 := by decide
  refine paceParts hT hbs ?_ (fun l hl' => ?_) c near
  · have := arg_max h2
    simp only [List.length_map]
    omega
  · obtain ⟨l0, h0, rfl⟩ := List.mem_map.1 hl'
    have := (hs.2.1.2 l0 h0).1
    simp only [List.length_map]
    omega
end Go.Proofs.YtbjelopcelompaaGreatDoor.Gst
