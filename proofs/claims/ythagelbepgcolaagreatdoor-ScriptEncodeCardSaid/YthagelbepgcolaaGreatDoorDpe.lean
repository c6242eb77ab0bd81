/- A plan that is made of another one. -/
import Derived.Test.YthagelbepgcolaaGreatDoorDpd
namespace Go.Proofs.YthagelbepgcolaaGreatDoor.Gst
open Go Go.RowKit
set_option linter.unusedSimpArgs false
set_option linter.unusedVariables false
set_option maxHeartbeats 1000000

theorem ts_sv {α : Type} {e : Nat} {enc : α → List Value} {v : Value} {l : List α} {R : SP} {H : AH} (h : Holds (ts e enc v l * R) H) : ∃ s : Sv, v = s.v := by
  rcases ts_open (s := v) h with ⟨rfl, _, _⟩ | ⟨b', rfl, _⟩
  · exact ⟨⟨none, 0, 0⟩, rfl⟩
  · exact ⟨⟨_, _, _⟩, rfl⟩
theorem sum_set : ∀ {l : List Nat} {i : Nat} (h : i < l.length) (x : Nat), (l.set i x).sum + l[i] = l.sum + x := by
  intro l
  induction l with
  | nil => intro i h; simp at h
  | cons a l ih =>
    intro i h x
    cases i with
    | zero => simp; omega
    | succ i =>
      have := ih (i := i) (by simpa using h) x
      simp only [List.set_cons_succ, List.sum_cons, List.getElem_cons_succ]
      omega
theorem sumL_set {ll : List (List Cl)} {i : Nat} (h : i < ll.length) (l : List Cl) : sumL (ll.set i l) + ll[i].length = sumL ll + l.length := by
  unfold sumL
  have := sum_set (l := ll.map List.length) (i := i) (by simpa using h) l.length
  rw [List.map_set]
  simpa using this
theorem sumL_snoc {ll : List (List Cl)} {l : List Cl} : sumL (ll ++ [l]) = sumL ll + l.length := by unfold sumL; simp
instance lsS_rd (v : Value) (ps : List (Sv × List Cl)) : Rd (lsS v ps) v 1 encS (ps.map (·.1)) := by unfold lsS; infer_instance

/-! ### A plan that is made of another one -/
section
variable {P R : SP} {v : Value} {ll : List (List Cl)}
def PlanQ (P R : SP) (v' : Value) (H' : AH) : Prop := ∃ y : Cfg × Sv, v' = .agg (planV y.1 y.2.v).toArray ∧ Holds (ex (fun ps : List (Sv × List Cl) => pu (rightB y.1 = true ∧ (ps.length : Int) = y.1.wk ∧ (∀ p ∈ ps, p.2.length ≤ 8) ∧ sumL (ps.map (·.2)) ≤ 60) * lsS y.2.v ps) * P * R) H'
def plS (b4 b5 b6 : Nat) (c' : Cfg) (pv : Value) (ps : List (Sv × List Cl)) (X : SP) : SP := blk b6 (.cells false (planV c' pv)) * (ts 1 encS pv (ps.map (·.1)) * (rowsS ps * (blk b5 (.cells false (Cfg.cells c')) * (blk b4 (.cells false [vi 0, vi 0, vi 0, vi 0, vw 0, .slice none 0 0]) * X))))
theorem play_plan [L : Ls P v ll] (c : Cfg) (hn : (ll.length : Int) < 9223372036854775808) (hb : ∀ l ∈ ll, (l.length : Int) < 9223372036854775808) :
    Sp n_play_Plan [.agg (planV c v).toArray, vi 5] P (fun y : Cfg × Sv => .agg (planV y.1 y.2.v).toArray)
      (fun y => ex (fun ps : List (Sv × List Cl) => pu (rightB y.1 = true ∧ (ps.length : Int) = y.1.wk ∧ (∀ p ∈ ps, p.2.length ≤ 8) ∧ sumL (ps.map (·.2)) ≤ 60) * lsS y.2.v ps) * P) := by
  refine sp_of fun R H h => ?_
  show wp (FF n_play_Plan [.agg (planV c v).toArray, vi 5] H) (PlanQ P R)
  obtain ⟨us, hvl, r1, r2⟩ := L.out
  refine wp_of (fun r => play_Plan_of _ _ H) ?_
  refine w_newC h fun b2 H1 h1 => ?_
  refine w_new h1 fun b4 H2 h2 => ?_
  refine w_ldN h2 end_f0 ?_
  refine w_call h2 (play_config c) fun c' H3 h3 => ?_
  obtain ⟨hc', h3b⟩ := Holds.pu.1 h3
  clear h3
  obtain ⟨sh, sl, wk, wd, un⟩ := c'
  have hcc := rightB_iff.1 hc'
  dsimp only at hcc
  obtain ⟨k, rfl⟩ : ∃ k : Nat, wk = k := ⟨wk.toNat, by omega⟩
  refine w_new h3b fun b5 H4 h4 => ?_
  refine w_St h4 rfl rfl fun H5 h5 => ?_
  refine w_LdN h5 ?_
  refine w_S ?_
  refine w_new h5 fun b6 H6 h6 => ?_
  refine w_St h6 rfl rfl fun H7 h7 => ?_
  refine wp_eq (play_Plan_k0_eq _ _ _ _ _ _ H7) ?_
  refine wp_eq (play_Plan_k5_eq _ _ _ _ _ _ _ H7) ?_
  have h8 : Holds (plS b4 b5 b6 ⟨sh, sl, k, wd, un⟩ (.slice none 0 0) [] (blk b2 (.cells false (planV c v)) * (P * R))) H7 := by
    unfold plS
    rw [List.map_nil]
    have t : Holds (ts 1 encS (.slice none 0 0) [] * (rowsS [] * _)) H7 := ts_nil 1 encS (rows_none h7 0)
    exact t.to
  have outer : ∀ (d i n : Nat) (pv : Value) (ps : List (Sv × List Cl)) (H : AH), i + d = k → n ≤ 57 → ps.length = i → (∀ p ∈ ps, p.2.length ≤ 8) → sumL (ps.map (·.2)) + n ≤ 60 → Holds (plS b4 b5 b6 ⟨sh, sl, k, wd, un⟩ pv ps (blk b2 (.cells false (planV c v)) * (P * R))) H →
      wp (play_Plan_k7 (vi 5) (vp b2) (vp b4) (vp b5) (vp b6) (vi n) (vi i) H) (PlanQ P R) := by
    intro d
    induction d with
    | zero =>
      intro i n pv ps H hi hn57 hp hps hsm h
      refine wp_eq (play_Plan_k7_eq _ _ _ _ _ _ _ H) ?_
      have h' := h
      unfold plS at h'
      refine w_ld h' end_f0 rfl ?_
      refine w_bind (lss_f (by dsimp only; omega)) ?_
      refine gs ?_
      refine wp_eq (play_Plan_e6_0_eq _ _ H) ?_
      refine wp_eq (play_Plan_k1_eq _ _ H) ?_
      have h2' : Holds (ts 1 encS pv (ps.map (·.1)) * (blk b6 (.cells false (planV ⟨sh, sl, k, wd, un⟩ pv)) * (rowsS ps * (blk b5 (.cells false (Cfg.cells ⟨sh, sl, k, wd, un⟩)) * (blk b4 (.cells false [vi 0, vi 0, vi 0, vi 0, vw 0, .slice none 0 0]) * (blk b2 (.cells false (planV c v)) * (P * R))))))) H := h'.to
      obtain ⟨s, rfl⟩ := ts_sv h2'
      refine w_LdN h' ?_
      refine w_St h' rfl rfl fun H10 h10 => ?_
      refine w_LdN h10 ?_
      refine w_ret ⟨(⟨sh, sl, k, wd, un⟩, s), rfl, ?_⟩
      rw [sep_assoc]
      refine Holds.ex.2 ⟨ps, ?_⟩
      rw [sep_assoc]
      refine Holds.pu.2 ⟨⟨hc', by dsimp only; omega, hps, by omega⟩, ?_⟩
      unfold lsS
      exact Holds.to (A := ts 1 encS s.v (ps.map (·.1)) * rowsS ps * (P * R)) h10
    | succ d ih =>
      intro i n pv ps H hi hn57 hp hps hsm h
      refine wp_eq (play_Plan_k7_eq _ _ _ _ _ _ _ H) ?_
      have h' := h
      unfold plS at h'
      refine w_ld h' end_f0 rfl ?_
      refine w_bind (lss_t (by dsimp only; omega)) ?_
      refine gs ?_
      refine wp_eq (play_Plan_k8_eq _ _ _ _ _ _ _ H) ?_
      refine wp_eq (play_Plan_k12_eq _ _ _ _ _ _ _ _ H) ?_
      -- a list is laid to the others
      have lay : ∀ (n : Nat) (s : Sv) (l : List Cl) (H : AH), n ≤ 57 → l.length ≤ 8 → sumL (ps.map (·.2)) + l.length + n ≤ 60 → Holds (plS b4 b5 b6 ⟨sh, sl, k, wd, un⟩ pv ps (ts 4 Cl.cells s.v l * (blk b2 (.cells false (planV c v)) * (P * R)))) H →
          wp (play_Plan_e21_2 (vi 5) (vp b2) (vp b4) (vp b5) (vp b6) (vi n) (vi i) s.v H) (PlanQ P R) := by
        intro n s l H hn57 hl hsl h
        refine wp_eq (play_Plan_e21_2_eq _ _ _ _ _ _ _ _ H) ?_
        refine wp_eq (play_Plan_k14_eq _ _ _ _ _ _ _ _ H) ?_
        unfold plS at h
        refine w_ld h end_f0 rfl ?_
        refine w_R h fun b0 H3 h3 => ?_
        refine w_tapp (s : Sv) h3 rfl ?_ (by omega) fun a cc H4 h4 => ?_
        · unfold room; simp only [List.length_map]; omega
        refine w_st h4 end_f0 rfl rfl fun H5 h5 => ?_
        refine wp_eq (play_Plan_k9_eq _ _ _ _ _ _ _ H5) ?_
        refine w_bind (bin_add_i (by omega) (by omega)) ?_
        refine ih (i + 1) n (.slice a ((ps.map (·.1)).length + 1) cc) (ps ++ [(s, l)]) H5 (by omega) hn57 (by first | (simp; done) | (simp; omega)) (fun p hp => ?_) (by rw [List.map_append, List.map_singleton, sumL_snoc]; omega) ?_
        · rcases List.mem_append.1 hp with hp | hp
          · exact hps p hp
          · rw [List.mem_singleton.1 hp]; exact hl
        · unfold plS
          rw [rowsS_snoc, List.map_append, List.map_singleton]
          exact h5.to
      have calls : ∀ (e j n : Nat) (s : Sv) (l : List Cl) (H : AH), j + e = 5 → n ≤ 57 → l.length ≤ 3 + j → sumL (ps.map (·.2)) + l.length + n ≤ 60 → Holds (plS b4 b5 b6 ⟨sh, sl, k, wd, un⟩ pv ps (ts 4 Cl.cells s.v l * (blk b2 (.cells false (planV c v)) * (P * R)))) H →
          wp (play_Plan_k22 (vi 5) (vp b2) (vp b4) (vp b5) (vp b6) (vi n) (vi i) s.v (vi j) H) (PlanQ P R) := by
        intro e
        induction e with
        | zero =>
          intro j n s l H hj hn57 hl hsl h
          refine wp_eq (play_Plan_k22_eq _ _ _ _ _ _ _ _ _ H) ?_
          have h' := h
          unfold plS at h'
          refine w_ld h' end_f0 rfl ?_
          refine w_rlen (s := v) (l := us) h' ?_
          by_cases hil : (i : Int) < us.length
          · have hiv : i < us.length := by omega
            have hil' : i < ll.length := by omega
            haveI := r2 i hiv hil'
            refine w_bind (lss_t hil) ?_
            refine gs ?_
            refine w_ld h' end_f0 rfl ?_
            refine gs ?_
            refine w_rld1 (s := v) (l := us) h' hiv rfl ?_
            refine gs ?_
            refine w_rlenB (l := ll[i]'hil') h' ?_
            refine gs ?_
            by_cases hjl : (j : Int) < (ll[i]'hil').length
            · refine w_bind (lss_t hjl) ?_
              refine gs ?_
              refine w_bind (lss_f (by omega)) ?_
              refine gs ?_
              exact lay n s l H hn57 (by omega) hsl h
            · refine w_bind (lss_f hjl) ?_
              refine gs ?_
              exact lay n s l H hn57 (by omega) hsl h
          · refine w_bind (lss_f hil) ?_
            refine gs ?_
            exact lay n s l H hn57 (by omega) hsl h
        | succ e ihe =>
          intro j n s l H hj hn57 hl hsl h
          refine wp_eq (play_Plan_k22_eq _ _ _ _ _ _ _ _ _ H) ?_
          have h' := h
          unfold plS at h'
          refine w_ld h' end_f0 rfl ?_
          refine w_rlen (s := v) (l := us) h' ?_
          by_cases hil : (i : Int) < us.length
          · have hiv : i < us.length := by omega
            have hil' : i < ll.length := by omega
            haveI := r2 i hiv hil'
            refine w_bind (lss_t hil) ?_
            refine gs ?_
            refine w_ld h' end_f0 rfl ?_
            refine gs ?_
            refine w_rld1 (s := v) (l := us) h' hiv rfl ?_
            refine gs ?_
            refine w_rlenB (l := ll[i]'hil') h' ?_
            refine gs ?_
            by_cases hjl : (j : Int) < (ll[i]'hil').length
            · refine w_bind (lss_t hjl) ?_
              refine gs ?_
              refine w_bind (lss_t (by omega)) ?_
              refine gs ?_
              by_cases hn0 : 0 < (n : Int)
              · refine w_bind (gtr_t hn0) ?_
                refine gs ?_
                have hjl' : j < (ll[i]'hil').length := by omega
                refine wp_eq (play_Plan_k23_eq _ _ _ _ _ _ _ _ _ H) ?_
                refine w_ld h' end_f0 rfl ?_
                refine w_rld1 (s := v) (l := us) h' hiv rfl ?_
                refine w_rldN (l := ll[i]'hil') h' (i := j) hjl' ?_
                refine w_call h' (play_call ((ll[i]'hil')[j]'hjl')) fun y H3 h3 => ?_
                refine w_R h3 fun b0 H4 h4 => ?_
                refine w_tapp (y : Cl) h4 rfl ?_ (by omega) fun a cc H5 h5 => ?_
                · unfold room; omega
                refine w_bind (bin_sub_i (by omega) (by omega)) ?_
                refine wp_eq (play_Plan_k24_eq _ _ _ _ _ _ _ _ _ H5) ?_
                refine w_bind (bin_add_i (by omega) (by omega)) ?_
                rw [show ((n : Nat) : Int) - 1 = ((n - 1 : Nat) : Int) from by omega]
                refine ihe (j + 1) (n - 1) ⟨a, l.length + 1, cc⟩ (l ++ [y]) H5 (by omega) (by omega) (by first | (simp; done) | (simp; omega)) (by rw [List.length_append, List.length_singleton]; omega) ?_
                unfold plS
                exact h5.to
              · refine w_bind (gtr_f hn0) ?_
                refine gs ?_
                exact lay n s l H hn57 (by omega) hsl h
            · refine w_bind (lss_f hjl) ?_
              refine gs ?_
              exact lay n s l H hn57 (by omega) hsl h
          · refine w_bind (lss_f hil) ?_
            refine gs ?_
            exact lay n s l H hn57 (by omega) hsl h
      have begin' : ∀ (s : Sv) (l : List Cl) (H : AH), l.length ≤ 3 → sumL (ps.map (·.2)) + l.length + n ≤ 60 → Holds (plS b4 b5 b6 ⟨sh, sl, k, wd, un⟩ pv ps (ts 4 Cl.cells s.v l * (blk b2 (.cells false (planV c v)) * (P * R)))) H →
          wp (play_Plan_k13 (vi 5) (vp b2) (vp b4) (vp b5) (vp b6) (vi n) (vi i) s.v H) (PlanQ P R) := by
        intro s l H hl hsl h
        refine wp_eq (play_Plan_k13_eq _ _ _ _ _ _ _ _ H) ?_
        refine wp_eq (play_Plan_k20_eq _ _ _ _ _ _ _ _ _ H) ?_
        exact calls 5 0 n s l H (by omega) hn57 (by omega) hsl h
      have none' : ∀ (H : AH), Holds (plS b4 b5 b6 ⟨sh, sl, k, wd, un⟩ pv ps (blk b2 (.cells false (planV c v)) * (P * R))) H → wp (play_Plan_k13 (vi 5) (vp b2) (vp b4) (vp b5) (vp b6) (vi n) (vi i) (.slice none 0 0) H) (PlanQ P R) := by
        intro H h
        refine begin' ⟨none, 0, 0⟩ [] H (by simp) (by simpa using hsm) ?_
        unfold plS at h ⊢
        have := ts_nil 4 Cl.cells h
        exact this.to
      by_cases hi0 : (i : Int) = 0
      · refine w_bind (eql_t hi0) ?_
        refine gs ?_
        refine w_ld h' (end_f (end_f end_nil)) rfl ?_
        refine w_call h' (play_mod c.wd 4 (by omega) (by omega)) fun _ H3 h3 => ?_
        refine gs ?_
        refine w_bind (bin_gtr) ?_
        refine gs ?_
        refine w_cond (fun _ => ?_) (fun _ => ?_)
        · refine w_call h3 play_ready fun s H4 h4 => ?_
          obtain ⟨l, h4b⟩ := Holds.ex.1 h4
          clear h4
          rw [sep_assoc, Holds.pu] at h4b
          obtain ⟨hl3, h4c⟩ := h4b
          refine begin' s l H4 (by omega) (by rw [show ps = [] from List.eq_nil_of_length_eq_zero (by omega)]; show 0 + l.length + n ≤ 60; omega) ?_
          unfold plS
          exact h4c.to
        · refine none' H3 ?_
          unfold plS
          exact h3.to
      · refine w_bind (eql_f hi0) ?_
        refine gs ?_
        exact none' H h
  exact outer k 0 57 (.slice none 0 0) [] H7 (by omega) (by omega) rfl (fun p hp => by cases hp) (by show 0 + 57 ≤ 60; omega) h8

end
end Go.Proofs.YthagelbepgcolaaGreatDoor.Gst
