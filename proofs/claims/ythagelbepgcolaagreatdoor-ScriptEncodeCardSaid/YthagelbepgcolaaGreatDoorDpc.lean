/- A new world: whether it is told to be one; all that is made for it. -/
import Derived.Test.YthagelbepgcolaaGreatDoorDpb
namespace Go.Proofs.YthagelbepgcolaaGreatDoor.Gst
open Go Go.RowKit
set_option linter.unusedSimpArgs false
set_option linter.unusedVariables false
set_option maxHeartbeats 1000000
set_option maxRecDepth 100000

theorem wheel_held_law (w : Int) : Sp n_wheel_held [vi w] emp (fun x : Int => vi x) (fun _ => emp) := by
  refine sp_of fun R H h => ?_
  refine wp_of (fun r => wheel_held_of _ H) ?_
  refine w_bind (max_i) ?_
  refine w_bind (min_i) ?_
  exact w_ret ⟨_, rfl, h⟩
theorem wheel_new (w : Int) : Sp n_wheel_New [vi w] emp (fun b : Nat => vp b) (fun _ => emp) := by
  refine sp_of fun R H h => ?_
  refine wp_of (fun r => wheel_New_of _ H) ?_
  refine w_call h (wheel_held_law w) fun x H1 h1 => ?_
  refine w_map h1 fun mb H2 h2 => ?_
  refine w_mkS rfl ?_
  refine w_newC h2 fun b H3 h3 => ?_
  exact w_ret ⟨b, rfl, h3.to⟩
theorem heap_new : Sp n_heap_New [] emp (fun b : Nat => vp b) (fun _ => emp) := by
  refine sp_of fun R H h => ?_
  refine wp_of (fun r => heap_New_of H) ?_
  refine w_map h fun mb H2 h2 => ?_
  refine w_S ?_
  refine w_newC h2 fun b H3 h3 => ?_
  exact w_ret ⟨b, rfl, h3.to⟩
theorem shard_new (w : Int) : Sp n_shard_New [vi w] emp (fun b : Nat => vp b) (fun _ => emp) := by
  refine sp_of fun R H h => ?_
  refine wp_of (fun r => shard_New_of _ H) ?_
  refine w_call h (wheel_new w) fun x H1 h1 => ?_
  refine w_call h1 heap_new fun y H2 h2 => ?_
  refine w_S ?_
  refine w_newC h2 fun b H3 h3 => ?_
  exact w_ret ⟨b, rfl, h3.to⟩
theorem mem_new : Sp n_mem_New [] emp (fun b : Nat => vp b) (fun _ => emp) := by
  refine sp_of fun R H h => ?_
  refine wp_of (fun r => mem_New_of H) ?_
  refine w_map h fun mb H2 h2 => ?_
  refine w_S ?_
  refine w_newC h2 fun b H3 h3 => ?_
  exact w_ret ⟨b, rfl, h3.to⟩
theorem inbox_new (m : Nat) (s : Int) : Sp n_inbox_New [vp m, vi s] emp (fun b : Nat => vp b) (fun _ => emp) := by
  refine sp_of fun R H h => ?_
  refine wp_of (fun r => inbox_New_of _ _ H) ?_
  refine w_bind (max_i) ?_
  refine w_bind (min_i) ?_
  refine w_map h fun mb H2 h2 => ?_
  refine w_S ?_
  refine w_newC h2 fun b H3 h3 => ?_
  exact w_ret ⟨b, rfl, h3.to⟩
theorem table_new (m : Nat) (s t : Int) : Sp n_table_New [vp m, vi s, vi t] emp (fun b : Nat => vp b) (fun _ => emp) := by
  refine sp_of fun R H h => ?_
  refine wp_of (fun r => table_New_of _ _ _ H) ?_
  refine w_bind (max_i) ?_
  refine w_bind (min_i) ?_
  refine w_bind (max_i) ?_
  refine w_bind (min_i) ?_
  refine w_S ?_
  refine w_newC h fun b H3 h3 => ?_
  exact w_ret ⟨b, rfl, h3.to⟩
theorem post_new (m : Nat) (s : Int) : Sp n_post_New [vp m, vi s] emp (fun b : Nat => vp b) (fun _ => emp) := by
  refine sp_of fun R H h => ?_
  refine wp_of (fun r => post_New_of _ _ H) ?_
  refine w_bind (max_i) ?_
  refine w_bind (min_i) ?_
  refine w_map h fun mb H2 h2 => ?_
  refine w_map h2 fun mc H3 h3 => ?_
  refine w_S ?_
  refine w_newC h3 fun b H4 h4 => ?_
  exact w_ret ⟨b, rfl, h4.to⟩

/-! ### The tour, the queue -/
structure Lf where
  k : Int
  i : Int
  b : Bool
abbrev Lf.cells (x : Lf) : List Value := [vw x.k, vi x.i, vb x.b]
instance : Enc Lf.cells 3 := ⟨fun _ => rfl, fun _ => rfl, by omega⟩
def tourP (t : Nat) (lv : Value) (s : Nat) (nv : Value) (m : List Int) : SP := blk t (.cells false [lv, vi s, nv]) * ts 1 encI nv m
theorem tour_new (n : Int) : Sp n_tour_New [vi n] emp (fun b : Nat => vp b) (fun _ => emp) := by
  refine sp_of fun R H h => ?_
  refine wp_of (fun r => tour_New_of _ H) ?_
  refine w_bind (max_i) ?_
  refine w_bind (min_i) ?_
  obtain ⟨k, hk⟩ : ∃ k : Nat, min (max n 1) 16 = k := ⟨(min (max n 1) 16).toNat, by omega⟩
  rw [hk]
  have hk1 : 1 ≤ k := by omega
  have hk16 : k ≤ 16 := by omega
  refine w_make (enc := Lf.cells) (⟨0, 0, false⟩ : Lf) h rfl (by unfold room; omega) (by omega) fun lb H1 h1 => ?_
  refine w_S ?_
  refine w_newC h1 fun t H2 h2 => ?_
  refine wp_eq (tour_New_k0_eq _ _ _ H2) ?_
  -- the nodes
  have nodes : ∀ (s : Nat) (H : AH), s ≤ 32 → Holds (tourP t (vs lb k 3) s (.slice none 0 0) [] * R) H → wp (tour_New_k1 (.pointer none) (vp t) H) fun v' H' => ∃ b : Nat, v' = vp b ∧ Holds (emp * R) H' := by
    intro s H hs h
    refine wp_eq (tour_New_k1_eq _ _ H) ?_
    unfold tourP at h
    refine w_ld h end_nf rfl ?_
    refine w_bind (bin_mul_i (by omega) (by omega)) ?_
    refine wp_eq (tour_New_k3_eq _ _ _ _ H) ?_
    have loop : ∀ (d i : Nat) (nv : Value) (m : List Int) (H : AH), i + d = 2 * s → m.length = i → Holds (blk t (.cells false [vs lb k 3, vi s, nv]) * ts 1 encI nv m * R) H → wp (tour_New_k5 (.pointer none) (vp t) (vi (2 * (s : Int))) (vi i) H) fun v' H' => ∃ b : Nat, v' = vp b ∧ Holds (emp * R) H' := by
      intro d
      induction d with
      | zero =>
        intro i nv m H hi hm h
        refine wp_eq (tour_New_k5_eq _ _ _ _ H) ?_
        refine w_bind (lss_f (by omega)) ?_
        refine gs ?_
        refine wp_eq (tour_New_e4_2_eq _ _ H) ?_
        refine wp_eq (tour_New_k2_eq _ _ H) ?_
        exact w_ret ⟨t, rfl, h.to⟩
      | succ d ih =>
        intro i nv m H hi hm h
        refine wp_eq (tour_New_k5_eq _ _ _ _ H) ?_
        refine w_bind (lss_t (by omega)) ?_
        refine gs ?_
        refine wp_eq (tour_New_k6_eq _ _ _ _ H) ?_
        refine w_ld h end_nf rfl ?_
        refine w_R h fun b0 H3 h3 => ?_
        refine w_tapp (-1 : Int) h3 rfl ?_ (by omega) fun a c H4 h4 => ?_
        · unfold room; omega
        refine w_st h4 end_nf rfl rfl fun H5 h5 => ?_
        refine wp_eq (tour_New_k7_eq _ _ _ _ H5) ?_
        refine w_bind (bin_add_i (by omega) (by omega)) ?_
        refine ih (i + 1) (.slice a (m.length + 1) c) (m ++ [-1]) H5 (by omega) (by simp; omega) h5.to
    exact loop (2 * s) 0 (.slice none 0 0) [] H (by omega) rfl h
  -- the size
  have size : ∀ (d s : Nat) (H : AH), 16 ≤ s + d → 1 ≤ s → s ≤ 32 → Holds (tourP t (vs lb k 3) s (.slice none 0 0) [] * R) H → wp (tour_New_k19 (vi k) (.pointer none) (vp t) H) fun v' H' => ∃ b : Nat, v' = vp b ∧ Holds (emp * R) H' := by
    intro d
    induction d with
    | zero =>
      intro s H hd hs1 hs h
      refine wp_eq (tour_New_k19_eq _ _ _ H) ?_
      have h' := h
      unfold tourP at h'
      refine w_ld h' end_nf rfl ?_
      refine w_bind (lss_f (by omega)) ?_
      refine gs ?_
      refine wp_eq (tour_New_e18_0_eq _ _ H) ?_
      exact nodes s H hs h
    | succ d ih =>
      intro s H hd hs1 hs h
      refine wp_eq (tour_New_k19_eq _ _ _ H) ?_
      have h' := h
      unfold tourP at h'
      refine w_ld h' end_nf rfl ?_
      by_cases hlt : (s : Int) < k
      · refine w_bind (lss_t hlt) ?_
        refine gs ?_
        refine wp_eq (tour_New_k20_eq _ _ _ H) ?_
        refine w_ld h' end_nf rfl ?_
        refine w_bind (bin_mul_i (by omega) (by omega)) ?_
        refine w_st h' end_nf rfl rfl fun H3 h3 => ?_
        refine ih (s * 2) H3 (by omega) (by omega) (by omega) ?_
        unfold tourP
        rw [show (((s * 2 : Nat) : Int)) = (s : Int) * 2 from by omega]
        exact h3.to
      · refine w_bind (lss_f hlt) ?_
        refine gs ?_
        refine wp_eq (tour_New_e18_0_eq _ _ H) ?_
        exact nodes s H hs h
  refine size 16 1 H2 (by omega) (by omega) (by omega) ?_
  unfold tourP
  have h3 := ts_nil 1 encI h2
  exact h3.to
abbrev encP1 (b : Nat) : List Value := [vp b]
instance : Enc encP1 1 := ⟨fun _ => rfl, fun _ => rfl, by omega⟩
theorem queue_new (n w : Int) : Sp n_queue_New [vi n, vi w] emp (fun b : Nat => vp b) (fun _ => emp) := by
  refine sp_of fun R H h => ?_
  refine wp_of (fun r => queue_New_of _ _ H) ?_
  refine w_bind (max_i) ?_
  refine w_bind (min_i) ?_
  obtain ⟨k, hk⟩ : ∃ k : Nat, min (max n 1) 16 = k := ⟨(min (max n 1) 16).toNat, by omega⟩
  rw [hk]
  have hk16 : k ≤ 16 := by omega
  refine w_call h (tour_new k) fun tb H1 h1 => ?_
  refine w_S ?_
  refine w_newC h1 fun q H2 h2 => ?_
  refine wp_eq (queue_New_k0_eq _ _ _ _ H2) ?_
  refine wp_eq (queue_New_k2_eq _ _ _ _ _ H2) ?_
  have loop : ∀ (d i : Nat) (nv : Value) (m : List Nat) (H : AH), i + d = k → m.length = i → Holds (blk q (.cells false [nv, vp tb]) * ts 1 encP1 nv m * R) H → wp (queue_New_k4 (vi w) (.pointer none) (vp q) (vi k) (vi i) H) fun v' H' => ∃ b : Nat, v' = vp b ∧ Holds (emp * R) H' := by
    intro d
    induction d with
    | zero =>
      intro i nv m H hi hm h
      refine wp_eq (queue_New_k4_eq _ _ _ _ _ H) ?_
      refine w_bind (lss_f (by omega)) ?_
      refine gs ?_
      refine wp_eq (queue_New_e3_0_eq _ _ H) ?_
      refine wp_eq (queue_New_k1_eq _ _ H) ?_
      exact w_ret ⟨q, rfl, h.to⟩
    | succ d ih =>
      intro i nv m H hi hm h
      refine wp_eq (queue_New_k4_eq _ _ _ _ _ H) ?_
      refine w_bind (lss_t (by omega)) ?_
      refine gs ?_
      refine wp_eq (queue_New_k5_eq _ _ _ _ _ H) ?_
      refine w_ad end_nf ?_
      refine w_Ld1 h rfl ?_
      refine w_call h (shard_new w) fun sb H3 h3 => ?_
      refine w_eq1 h3 h rfl ?_
      refine w_R h3 fun b0 H4 h4 => ?_
      refine w_tapp (sb : Nat) h4 rfl ?_ (by omega) fun a c H5 h5 => ?_
      · unfold room; omega
      refine w_st h5 end_nf rfl rfl fun H6 h6 => ?_
      refine wp_eq (queue_New_k6_eq _ _ _ _ _ H6) ?_
      refine w_bind (bin_add_i (by omega) (by omega)) ?_
      exact ih (i + 1) (.slice a (m.length + 1) c) (m ++ [sb]) H6 (by omega) (by simp; omega) h6.to
  refine loop k 0 (.slice none 0 0) [] H2 (by omega) rfl ?_
  have h3 := ts_nil 1 encP1 h2
  exact h3.to
theorem core_new (c : Cfg) : Sp n_core_New [.agg (Cfg.cells c).toArray] emp (fun b : Nat => vp b) (fun _ => emp) := by
  refine sp_of fun R H h => ?_
  refine wp_of (fun r => core_New_of _ H) ?_
  refine w_newC h fun cb H1 h1 => ?_
  refine w_ld h1 end_f0 rfl ?_
  refine w_ld h1 end_f0 rfl ?_
  refine w_call h1 (queue_new c.sh c.wd) fun q H2 h2 => ?_
  refine w_map h2 fun mb H3 h3 => ?_
  refine w_map h3 fun mc H4 h4 => ?_
  refine w_S ?_
  refine w_newC h4 fun b H5 h5 => ?_
  exact w_ret ⟨b, rfl, h5.to⟩
theorem parts_new (c : Cfg) (hc : rightB c = true) : Sp n_parts_New [.agg (Cfg.cells c).toArray] emp (fun b : Nat => .tuple #[vp b, vi 0]) (fun _ => emp) := by
  refine sp_of fun R H h => ?_
  refine wp_of (fun r => parts_New_of _ H) ?_
  refine w_newC h fun cb H1 h1 => ?_
  refine w_LdN h1 ?_
  refine w_call h1 (model_right c) fun _ H2 h2 => ?_
  rw [hc]
  refine gs ?_
  rw [Bool.not_true]
  refine gs ?_
  refine w_call h2 mem_new fun m H3 h3 => ?_
  refine w_ld h3 end_f0 rfl ?_
  refine w_call h3 (inbox_new m c.sh) fun ib H4 h4 => ?_
  refine w_ad end_f0 ?_
  refine w_Ld1 h4 rfl ?_
  refine w_eq1 h3 h4 rfl ?_
  refine w_ad end_f0 ?_
  refine w_Ld1 h4 rfl ?_
  refine w_eq1 h3 h4 rfl ?_
  refine w_call h4 (table_new m c.sh c.sl) fun tb H5 h5 => ?_
  refine w_ad end_f0 ?_
  refine w_Ld1 h5 rfl ?_
  refine w_eq1 h3 h5 rfl ?_
  refine w_eq1 h4 h5 rfl ?_
  refine w_call h5 (post_new m c.wk) fun pb H6 h6 => ?_
  refine w_LdN h6 ?_
  refine w_eqN h3 h6 rfl ?_
  refine w_eqN h4 h6 rfl ?_
  refine w_eqN h5 h6 rfl ?_
  refine w_call h6 (core_new c) fun kb H7 h7 => ?_
  refine w_LdN h7 ?_
  refine w_eqN h3 h7 rfl ?_
  refine w_eqN h4 h7 rfl ?_
  refine w_eqN h5 h7 rfl ?_
  refine w_eqN h6 h7 rfl ?_
  refine w_map h7 fun mb H8 h8 => ?_
  refine w_S ?_
  refine w_newC h8 fun b H9 h9 => ?_
  exact w_ret ⟨b, rfl, h9.to⟩

/-! ### A clone of calls -/
theorem slices_clone {P : SP} {s : Sv} {l : List Cl} [r : Rd P s.v 4 Cl.cells l] (hl : l.length ≤ 1000000) : Sp n_slices_Cloneapi_Callapi_Call [s.v] P (fun s' : Sv => s'.v) (fun _ => P) := by
  refine sp_of fun R H h => ?_
  refine wp_of (fun r => slices_Cloneapi_Callapi_Call_of _ H) ?_
  refine w_bind (v := vb s.a.isNone) rfl ?_
  cases hn : s.a.isNone with
  | true =>
    refine gs ?_
    exact w_ret ⟨⟨none, 0, 0⟩, rfl, h⟩
  | false =>
    refine gs ?_
    refine w_mkR (cs := []) h rfl fun b H1 h1 => ?_
    have h2 : Holds (ts 4 Cl.cells (vs b 0 4) [] * (P * R)) H1 := ts_back (enc := Cl.cells) (l := []) h1
    refine w_rapp (x := s.v) (m := l) h2 (by unfold room; simp; omega) (by omega) fun v H2 h3 => ?_
    have hv : ∃ s' : Sv, v = s'.v := by
      rcases ts_open (s := v) h3 with ⟨rfl, _, _⟩ | ⟨b', rfl, _⟩
      · exact ⟨⟨none, 0, 0⟩, rfl⟩
      · exact ⟨⟨_, _, _⟩, rfl⟩
    obtain ⟨s', rfl⟩ := hv
    exact w_ret ⟨s', rfl, h3.to⟩

/-! ### A world -/
abbrev encW (s : Sv) : List Value := [.slice s.a s.n s.c, .slice none 0 0, .nilFunc]
instance : Enc encW 3 := ⟨fun _ => rfl, fun _ => rfl, by omega⟩
section
variable {P : SP} {v : Value} {ll : List (List Cl)}
theorem world_new [L : Ls P v ll] (c : Cfg) (hn : (ll.length : Int) < 9223372036854775808) (hb : ll.length ≤ 6 → ∀ l ∈ ll, l.length ≤ 140737488355328) :
    Sp n_world_New [.agg (planV c v).toArray] P (fun x : Value => .tuple #[x, vi (if mayB c ll then 0 else 1)]) (fun _ => P) := by
  refine sp_of fun R H h => ?_
  obtain ⟨us, hvl, r1, r2⟩ := L.out
  refine wp_of (fun r => world_New_of _ H) ?_
  refine w_newC h fun b H1 h1 => ?_
  refine wp_eq (world_New_k0_eq _ _ _ _ H1) ?_
  refine w_ld h1 end_f0 rfl ?_
  refine w_rlen (l := us) h1 ?_
  refine wp_eq (world_New_k40_eq _ _ _ _ _ _ _ H1) ?_
  have no : mayB c ll = false → wp (some (Value.tuple #[.pointer none, vi 1], H1)) fun v' H' => ∃ x : Value, v' = .tuple #[x, vi (if mayB c ll then 0 else 1)] ∧ Holds (P * R) H' := by
    intro hm
    rw [hm]
    exact w_ret ⟨.pointer none, rfl, h1.to⟩
  have tail : ∀ n : Int, (sumL ll < 1152921504606846976 → n = sumL ll) → wp (world_New_k1 (vp b) (.pointer none) (vi 0) (vi n) H1) fun v' H' => ∃ x : Value, v' = .tuple #[x, vi (if mayB c ll then 0 else 1)] ∧ Holds (P * R) H' := by
    intro n hnn
    refine wp_eq (world_New_k1_eq _ _ _ _ H1) ?_
    refine w_ldN h1 end_f0 ?_
    refine w_call h1 (model_right c) fun _ H2 h2 => ?_
    have no : mayB c ll = false → wp (some (Value.tuple #[.pointer none, vi 1], H2)) fun v' H' => ∃ x : Value, v' = .tuple #[x, vi (if mayB c ll then 0 else 1)] ∧ Holds (P * R) H' := by
      intro hm
      rw [hm]
      exact w_ret ⟨.pointer none, rfl, h2.to⟩
    cases hr : rightB c with
    | false =>
      refine gs ?_
      rw [Bool.not_false]
      refine gs ?_
      exact no (by unfold mayB; rw [hr]; rfl)
    | true =>
      refine gs ?_
      rw [Bool.not_true]
      have hc := rightB_iff.1 hr
      refine gs ?_
      refine w_ld h2 end_f0 rfl ?_
      refine gs ?_
      refine w_rlenB (l := us) h2 ?_
      refine gs ?_
      refine w_ld h2 (end_f (end_f end_nil)) rfl ?_
      refine gs ?_
      by_cases hlw : c.wk < (us.length : Int)
      · refine w_bind (gtr_t hlw) ?_
        refine gs ?_
        refine no ?_
        unfold mayB
        rw [hr, decide_eq_false (fun h => by omega)]
        rfl
      · refine w_bind (gtr_f hlw) ?_
        refine gs ?_
        have hs := sumL_bound (hb (by omega))
        have hs2 : ll.length * 140737488355328 ≤ 6 * 140737488355328 := Nat.mul_le_mul_right _ (by omega)
        have hn' := hnn (by omega)
        by_cases h60 : 60 < n
        · refine w_bind (gtr_t h60) ?_
          refine gs ?_
          refine no ?_
          unfold mayB
          rw [hr, decide_eq_false (fun h => by omega)]
          rfl
        · refine w_bind (gtr_f h60) ?_
          refine gs ?_
          have hmay : mayB c ll = true := by
            unfold mayB
            rw [hr, decide_eq_true ⟨by omega, by omega⟩]
            rfl
          rw [hmay]
          refine w_ld h2 (end_f (end_f end_nil)) rfl ?_
          obtain ⟨k, hk⟩ : ∃ k : Nat, c.wk = k := ⟨c.wk.toNat, by omega⟩
          simp only [hk, Nat.zero_add, Nat.add_zero, List.getElem?_cons_zero, List.getElem?_cons_succ] at *
          refine w_make (enc := encW) (⟨none, 0, 0⟩ : Sv) h2 rfl (by unfold room; omega) (by omega) fun wb H3 h3 => ?_
          refine w_S ?_
          refine w_newC h3 fun w H4 h4 => ?_
          refine w_ldN h4 end_f0 ?_
          refine w_call h4 (parts_new c hr) fun pb H5 h5 => ?_
          refine w_bind (v := vp pb) rfl ?_
          refine w_bind (v := vi 0) rfl ?_
          refine w_st h5 end_nf rfl rfl fun H6 h6 => ?_
          refine wp_eq (world_New_k2_eq _ _ _ _ H6) ?_
          refine w_ld h6 end_f0 rfl ?_
          refine w_rlen (l := us) h6 ?_
          refine wp_eq (world_New_k4_eq _ _ _ _ _ _ H6) ?_
          have loop : ∀ (d i : Nat) (rows : List Sv) (H : AH), i + d = ll.length → rows.length = k → Holds (blk w (.cells false [vp pb, vs wb k 3, vi 0, vi n]) * ts 3 encW (vs wb k 3) rows * P * R) H → wp (world_New_k6 (.pointer none) (vi 0) (vp w) v (vi us.length) (vi i) H) fun v' H' => ∃ x : Value, v' = .tuple #[x, vi 0] ∧ Holds (P * R) H' := by
            intro d
            induction d with
            | zero =>
              intro i rows H hi hro h
              refine wp_eq (world_New_k6_eq _ _ _ _ _ _ H) ?_
              refine w_bind (lss_f (by omega)) ?_
              refine gs ?_
              refine wp_eq (world_New_e5_2_eq _ _ _ H) ?_
              refine wp_eq (world_New_k3_eq _ _ _ H) ?_
              exact w_ret ⟨vp w, rfl, h.to⟩
            | succ d ih =>
              intro i rows H hi hro h
              have hiv : i < us.length := by omega
              have hil : i < ll.length := by omega
              haveI := r2 i hiv hil
              refine wp_eq (world_New_k6_eq _ _ _ _ _ _ H) ?_
              refine w_bind (lss_t (by omega)) ?_
              refine gs ?_
              refine wp_eq (world_New_k7_eq _ _ _ _ _ _ H) ?_
              refine w_rld1 (l := us) h hiv rfl ?_
              refine w_ad end_nf ?_
              refine w_Ld1 h rfl ?_
              have hle := sumL_mem hil
              refine w_rox h (slices_clone (s := us[i]) (l := ll[i]) (by omega)) fun s' H7 h7 => ?_
              refine w_eq1 h7 h rfl ?_
              refine w_tst (s' : Sv) h7 (i := i) (by omega) (.inr rfl) rfl (by omega) rfl rfl fun H8 h8 => ?_
              refine wp_eq (world_New_k8_eq _ _ _ _ _ _ H8) ?_
              refine w_bind (bin_add_i (by omega) (by omega)) ?_
              exact ih (i + 1) (rows.set i s') H8 (by omega) (by simp; omega) h8.to
          refine loop ll.length 0 (List.replicate k ⟨none, 0, 0⟩) H6 (by omega) (by simp) ?_
          exact h6.to
  have sum : ∀ (d i : Nat) (n : Int), i + d = ll.length → (sumL ll < 1152921504606846976 → n = sumL (ll.take i)) → wp (world_New_k42 (vp b) (.pointer none) (vi 0) (vi n) v (vi us.length) (vi i) H1) fun v' H' => ∃ x : Value, v' = .tuple #[x, vi (if mayB c ll then 0 else 1)] ∧ Holds (P * R) H' := by
    intro d
    induction d with
    | zero =>
      intro i n hi hnn
      refine wp_eq (world_New_k42_eq _ _ _ _ _ _ _ H1) ?_
      refine w_bind (lss_f (by omega)) ?_
      refine gs ?_
      refine wp_eq (world_New_e41_0_eq _ _ _ _ H1) ?_
      exact tail n (fun h => by rw [hnn h, sumL_all (by omega)])
    | succ d ih =>
      intro i n hi hnn
      have hiv : i < us.length := by omega
      have hil : i < ll.length := by omega
      haveI := r2 i hiv hil
      refine wp_eq (world_New_k42_eq _ _ _ _ _ _ _ H1) ?_
      refine w_bind (lss_t (by omega)) ?_
      refine gs ?_
      refine wp_eq (world_New_k43_eq _ _ _ _ _ _ _ H1) ?_
      refine w_rld1 (l := us) h1 hiv rfl ?_
      refine w_rlen (l := ll[i]) h1 ?_
      refine w_bind bin_add_w ?_
      refine wp_eq (world_New_k44_eq _ _ _ _ _ _ _ H1) ?_
      refine w_bind (bin_add_i (by omega) (by omega)) ?_
      refine ih (i + 1) _ (by omega) (fun hs => ?_)
      have e1 := sumL_take hil
      have e2 := sumL_le (ll := ll) (i + 1)
      rw [hnn hs, wrap_i_of (by omega) (by omega)]
      omega
  exact sum ll.length 0 0 (by omega) (fun _ => rfl)
end
end Go.Proofs.YthagelbepgcolaaGreatDoor.Gst
