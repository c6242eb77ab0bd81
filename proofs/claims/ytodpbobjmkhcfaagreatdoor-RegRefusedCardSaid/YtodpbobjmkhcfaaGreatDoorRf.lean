/- Points, of one point; the given comparisons of what is told. -/
import Derived.Test.YtodpbobjmkhcfaaGreatDoorRe
namespace Go.Proofs.YtodpbobjmkhcfaaGreatDoor.Gst
open Go Go.RowKit
set_option linter.unusedSimpArgs false
set_option linter.unusedVariables false
set_option maxHeartbeats 1000000
set_option synthInstance.maxSize 2000
set_option synthInstance.maxHeartbeats 400000

theorem wp_imp {x : OV} {Q Q' : Value → AH → Prop} (f : ∀ v H, Q v H → Q' v H) (k : wp x Q) : wp x Q' := let ⟨v, H, e, q⟩ := k; ⟨v, H, e, f _ _ q⟩
theorem slices_clone_pts (s : Value) (l : List Pt) (hl : l.length ≤ 1000000) : Sp n_slices_Cloneparts_pointparts_point [s] (ts 7 Pt.cells s l) (fun v : Value => v) (fun v => ts 7 Pt.cells v l * ts 7 Pt.cells s l) := by
  refine sp_of fun R H h => ?_
  refine wp_of (fun r => slices_Cloneparts_pointparts_point_of _ H) ?_
  rcases ts_open (s := s) (l := l) h with ⟨rfl, rfl, h0⟩ | ⟨b, rfl, h0⟩
  · refine w_bind (v := vb true) rfl ?_
    with_reducible repeat (first | refine w_bind (pick_t _ _) ?_ | refine w_bind (pick_f _ _) ?_ | refine w_bind gV_tt ?_ | refine w_bind gV_ff ?_ | refine w_bind gV_tf ?_ | refine w_bind gV_ft ?_ | refine w_bind gB_tf ?_ | refine w_bind gB_ft ?_ | refine w_gE_tf ?_ | refine w_gE_ft ?_ | refine w_gE_tt ?_ | refine w_gE_ff ?_ | refine w_onK_tf ?_ | refine w_onK_ft ?_ | refine w_onK_tt ?_ | refine w_onK_ff ?_ | refine w_gld_tt ?_ | refine w_gld_ff ?_ | refine w_gld_tf ?_ | refine w_gld_ft ?_ | refine w_gldN_tt ?_ | refine w_gldN_ff ?_ | refine w_gldN_tf ?_ | refine w_gldN_ft ?_ | refine w_gB_tt ?_ | refine w_gB_ff ?_ | refine w_bind un_not ?_ | refine w_cond_t ?_ | refine w_cond_f ?_ | refine w_bind gV_u ?_ | refine w_bind gB_u ?_ | refine w_gld_u ?_)
    refine w_ret ⟨_, rfl, ?_⟩
    have h1 := ts_nil 7 Pt.cells h
    exact h1.to
  · refine w_bind (v := vb false) rfl ?_
    with_reducible repeat (first | refine w_bind (pick_t _ _) ?_ | refine w_bind (pick_f _ _) ?_ | refine w_bind gV_tt ?_ | refine w_bind gV_ff ?_ | refine w_bind gV_tf ?_ | refine w_bind gV_ft ?_ | refine w_bind gB_tf ?_ | refine w_bind gB_ft ?_ | refine w_gE_tf ?_ | refine w_gE_ft ?_ | refine w_gE_tt ?_ | refine w_gE_ff ?_ | refine w_onK_tf ?_ | refine w_onK_ft ?_ | refine w_onK_tt ?_ | refine w_onK_ff ?_ | refine w_gld_tt ?_ | refine w_gld_ff ?_ | refine w_gld_tf ?_ | refine w_gld_ft ?_ | refine w_gldN_tt ?_ | refine w_gldN_ff ?_ | refine w_gldN_tf ?_ | refine w_gldN_ft ?_ | refine w_gB_tt ?_ | refine w_gB_ff ?_ | refine w_bind un_not ?_ | refine w_cond_t ?_ | refine w_cond_f ?_ | refine w_bind gV_u ?_ | refine w_bind gB_u ?_ | refine w_gld_u ?_)
    refine w_mkR (cs := []) h rfl fun b1 H1 h1 => ?_
    have h2 : Holds (ts 7 Pt.cells (vs b1 0 7) [] * (ts 7 Pt.cells (vs b l.length 7) l * R)) H1 := ts_back (enc := Pt.cells) (l := []) h1
    refine w_rapp (x := vs b l.length 7) (m := l) h2 (by unfold room; simp; omega) (by omega) fun v H2 h3 => ?_
    rw [List.nil_append] at h3
    exact w_ret ⟨v, rfl, h3.to⟩
theorem sort_one (s : Value) (x : Pt) (f : Value) : Sp n_slices_SortStableFuncparts_pointparts_point [s, f] (ts 7 Pt.cells s [x]) (fun _ : Unit => .tuple #[]) (fun _ => ts 7 Pt.cells s [x]) := by
  have ins : Sp n_slices_insertionSortCmpFuncparts_point [s, vi 0, vi 1, f] (ts 7 Pt.cells s [x]) (fun v : Value => v) (fun _ => ts 7 Pt.cells s [x]) := by
    refine sp_of fun R H h => ?_
    refine wp_of (fun r => slices_insertionSortCmpFuncparts_point_of _ _ _ _ H) ?_
    refine w_bind (bin_add_i (by omega) (by omega)) ?_
    refine wp_eq (slices_insertionSortCmpFuncparts_point_k0_eq _ _ _ _ _ H) ?_
    refine wp_eq (slices_insertionSortCmpFuncparts_point_k2_eq _ _ _ _ _ H) ?_
    refine w_bind (lss_f (by omega)) ?_
    with_reducible repeat (first | refine w_bind (pick_t _ _) ?_ | refine w_bind (pick_f _ _) ?_ | refine w_bind gV_tt ?_ | refine w_bind gV_ff ?_ | refine w_bind gV_tf ?_ | refine w_bind gV_ft ?_ | refine w_bind gB_tf ?_ | refine w_bind gB_ft ?_ | refine w_gE_tf ?_ | refine w_gE_ft ?_ | refine w_gE_tt ?_ | refine w_gE_ff ?_ | refine w_onK_tf ?_ | refine w_onK_ft ?_ | refine w_onK_tt ?_ | refine w_onK_ff ?_ | refine w_gld_tt ?_ | refine w_gld_ff ?_ | refine w_gld_tf ?_ | refine w_gld_ft ?_ | refine w_gldN_tt ?_ | refine w_gldN_ff ?_ | refine w_gldN_tf ?_ | refine w_gldN_ft ?_ | refine w_gB_tt ?_ | refine w_gB_ff ?_ | refine w_bind un_not ?_ | refine w_cond_t ?_ | refine w_cond_f ?_ | refine w_bind gV_u ?_ | refine w_bind gB_u ?_ | refine w_gld_u ?_)
    refine wp_eq (slices_insertionSortCmpFuncparts_point_e1_0_eq H) ?_
    exact w_ret ⟨_, rfl, h⟩
  have stable : Sp n_slices_stableCmpFuncparts_point [s, vi 1, f] (ts 7 Pt.cells s [x]) (fun v : Value => v) (fun _ => ts 7 Pt.cells s [x]) := by
    refine sp_of fun R H h => ?_
    refine wp_of (fun r => slices_stableCmpFuncparts_point_of _ _ _ H) ?_
    refine wp_eq (slices_stableCmpFuncparts_point_k0_eq _ _ _ _ _ _ H) ?_
    refine wp_eq (slices_stableCmpFuncparts_point_k27_eq _ _ _ _ _ _ H) ?_
    refine w_bind (leq_f (by omega)) ?_
    with_reducible repeat (first | refine w_bind (pick_t _ _) ?_ | refine w_bind (pick_f _ _) ?_ | refine w_bind gV_tt ?_ | refine w_bind gV_ff ?_ | refine w_bind gV_tf ?_ | refine w_bind gV_ft ?_ | refine w_bind gB_tf ?_ | refine w_bind gB_ft ?_ | refine w_gE_tf ?_ | refine w_gE_ft ?_ | refine w_gE_tt ?_ | refine w_gE_ff ?_ | refine w_onK_tf ?_ | refine w_onK_ft ?_ | refine w_onK_tt ?_ | refine w_onK_ff ?_ | refine w_gld_tt ?_ | refine w_gld_ff ?_ | refine w_gld_tf ?_ | refine w_gld_ft ?_ | refine w_gldN_tt ?_ | refine w_gldN_ff ?_ | refine w_gldN_tf ?_ | refine w_gldN_ft ?_ | refine w_gB_tt ?_ | refine w_gB_ff ?_ | refine w_bind un_not ?_ | refine w_cond_t ?_ | refine w_cond_f ?_ | refine w_bind gV_u ?_ | refine w_bind gB_u ?_ | refine w_gld_u ?_)
    refine wp_eq (slices_stableCmpFuncparts_point_e26_0_eq _ _ _ _ _ H) ?_
    refine wp_eq (slices_stableCmpFuncparts_point_k1_eq _ _ _ _ _ H) ?_
    refine w_call h ins fun _ H1 h1 => ?_
    refine wp_eq (slices_stableCmpFuncparts_point_k2_eq _ _ _ _ H1) ?_
    refine wp_eq (slices_stableCmpFuncparts_point_k4_eq _ _ _ _ H1) ?_
    refine w_bind (lss_f (by omega)) ?_
    with_reducible repeat (first | refine w_bind (pick_t _ _) ?_ | refine w_bind (pick_f _ _) ?_ | refine w_bind gV_tt ?_ | refine w_bind gV_ff ?_ | refine w_bind gV_tf ?_ | refine w_bind gV_ft ?_ | refine w_bind gB_tf ?_ | refine w_bind gB_ft ?_ | refine w_gE_tf ?_ | refine w_gE_ft ?_ | refine w_gE_tt ?_ | refine w_gE_ff ?_ | refine w_onK_tf ?_ | refine w_onK_ft ?_ | refine w_onK_tt ?_ | refine w_onK_ff ?_ | refine w_gld_tt ?_ | refine w_gld_ff ?_ | refine w_gld_tf ?_ | refine w_gld_ft ?_ | refine w_gldN_tt ?_ | refine w_gldN_ff ?_ | refine w_gldN_tf ?_ | refine w_gldN_ft ?_ | refine w_gB_tt ?_ | refine w_gB_ff ?_ | refine w_bind un_not ?_ | refine w_cond_t ?_ | refine w_cond_f ?_ | refine w_bind gV_u ?_ | refine w_bind gB_u ?_ | refine w_gld_u ?_)
    refine wp_eq (slices_stableCmpFuncparts_point_e3_2_eq H1) ?_
    exact w_ret ⟨_, rfl, h1.to⟩
  refine sp_of fun R H h => ?_
  refine wp_of (fun r => slices_SortStableFuncparts_pointparts_point_of _ _ H) ?_
  refine w_tlen (s := s) (l := [x]) h ?_
  refine w_call h stable fun _ H1 h1 => ?_
  exact w_ret ⟨(), rfl, h1.to⟩
theorem points_loop (x2 s : Value) (l : List Pt) (hl : l.length ≤ 1000000) {P R : SP} : ∀ (d i : Nat) (o : Value) (H : AH), i + d = l.length → Holds (ts 7 Pt.cells o (l.take i) * (ts 7 Pt.cells s l * P) * R) H →
    wp (parts_Parts_Points_k4 x2 o s (vi l.length) (vi i) H) fun v' H' => ∃ v : Value, v' = v ∧ Holds (ts 7 Pt.cells v l * (ts 7 Pt.cells s l * P) * R) H' := by
  intro d
  induction d with
  | zero =>
    intro i o H hi h
    refine wp_eq (parts_Parts_Points_k4_eq _ _ _ _ _ H) ?_
    refine w_bind (lss_f (by omega)) ?_
    with_reducible repeat (first | refine w_bind (pick_t _ _) ?_ | refine w_bind (pick_f _ _) ?_ | refine w_bind gV_tt ?_ | refine w_bind gV_ff ?_ | refine w_bind gV_tf ?_ | refine w_bind gV_ft ?_ | refine w_bind gB_tf ?_ | refine w_bind gB_ft ?_ | refine w_gE_tf ?_ | refine w_gE_ft ?_ | refine w_gE_tt ?_ | refine w_gE_ff ?_ | refine w_onK_tf ?_ | refine w_onK_ft ?_ | refine w_onK_tt ?_ | refine w_onK_ff ?_ | refine w_gld_tt ?_ | refine w_gld_ff ?_ | refine w_gld_tf ?_ | refine w_gld_ft ?_ | refine w_gldN_tt ?_ | refine w_gldN_ff ?_ | refine w_gldN_tf ?_ | refine w_gldN_ft ?_ | refine w_gB_tt ?_ | refine w_gB_ff ?_ | refine w_bind un_not ?_ | refine w_cond_t ?_ | refine w_cond_f ?_ | refine w_bind gV_u ?_ | refine w_bind gB_u ?_ | refine w_gld_u ?_)
    refine wp_eq (parts_Parts_Points_e3_0_eq _ _ H) ?_
    refine wp_eq (parts_Parts_Points_k1_eq _ _ H) ?_
    rw [List.take_of_length_le (by omega)] at h
    exact w_ret ⟨_, rfl, h⟩
  | succ d ih =>
    intro i o H hi h
    have hil : i < l.length := by omega
    refine wp_eq (parts_Parts_Points_k4_eq _ _ _ _ _ H) ?_
    refine w_bind (lss_t (by omega)) ?_
    with_reducible repeat (first | refine w_bind (pick_t _ _) ?_ | refine w_bind (pick_f _ _) ?_ | refine w_bind gV_tt ?_ | refine w_bind gV_ff ?_ | refine w_bind gV_tf ?_ | refine w_bind gV_ft ?_ | refine w_bind gB_tf ?_ | refine w_bind gB_ft ?_ | refine w_gE_tf ?_ | refine w_gE_ft ?_ | refine w_gE_tt ?_ | refine w_gE_ff ?_ | refine w_onK_tf ?_ | refine w_onK_ft ?_ | refine w_onK_tt ?_ | refine w_onK_ff ?_ | refine w_gld_tt ?_ | refine w_gld_ff ?_ | refine w_gld_tf ?_ | refine w_gld_ft ?_ | refine w_gldN_tt ?_ | refine w_gldN_ff ?_ | refine w_gldN_tf ?_ | refine w_gldN_ft ?_ | refine w_gB_tt ?_ | refine w_gB_ff ?_ | refine w_bind un_not ?_ | refine w_cond_t ?_ | refine w_cond_f ?_ | refine w_bind gV_u ?_ | refine w_bind gB_u ?_ | refine w_gld_u ?_)
    refine wp_eq (parts_Parts_Points_k5_eq _ _ _ _ _ H) ?_
    refine w_tldN (s := s) (l := l) h hil ?_
    refine w_new h fun b H1 h1 => ?_
    refine w_St h1 rfl rfl fun H2 h2 => ?_
    refine w_ldN h2 end_f0 ?_
    refine w_call h2 (parts_own_law l[i].e) fun _ H3 h3 => ?_
    refine w_st h3 end_f0 rfl rfl fun H4 h4 => ?_
    refine w_LdN h4 ?_
    refine w_R h4 fun b0 H5 h5 => ?_
    refine w_tapp (s := o) (l := l.take i) (l[i] : Pt) h5 rfl ?_ (by omega) fun a c H6 h6 => ?_
    · unfold room; simp only [List.length_take]; omega
    refine wp_eq (parts_Parts_Points_k6_eq _ _ _ _ _ H6) ?_
    refine w_bind (bin_add_i (by omega) (by omega)) ?_
    refine ih (i + 1) _ H6 (by omega) ?_
    rw [List.take_succ_eq_append_getElem hil]
    exact h6.to
theorem points_one (p : Nat) (σ : Sta) (x : Pt) (hx : σ.pts = [x]) : Sp n_parts_Parts_Points [vp p] (partsP p σ) (fun v : Value => v) (fun v => ts 7 Pt.cells v [x] * partsP p σ) := by
  refine sp_of fun R H h => ?_
  obtain ⟨g, hg, h0⟩ := partsP_open h
  unfold partsB at h0
  rw [hx] at h0
  refine wp_of (fun r => parts_Parts_Points_of _ H) ?_
  refine w_ld h0 end_nf rfl ?_
  refine w_call h0 (slices_clone_pts g.pv [x] (by simp)) fun v H1 h1 => ?_
  refine w_call h1 (sort_one v x _) fun _ H2 h2 => ?_
  refine wp_eq (parts_Parts_Points_k0_eq _ _ _ H2) ?_
  refine w_tlen (s := v) (l := [x]) h2 ?_
  refine wp_eq (parts_Parts_Points_k2_eq _ _ _ _ _ H2) ?_
  have h3 : Holds (partsP p σ * (ts 7 Pt.cells v [x] * R)) H2 := by
    refine partsP_close g hg ?_
    unfold partsB
    rw [hx]
    exact h2.to
  have h4 := ts_nil 7 Pt.cells h3
  have h5 : Holds (ts 7 Pt.cells (.slice none 0 0) [] * (ts 7 Pt.cells v [x] * partsP p σ) * R) H2 := h4.to
  refine wp_imp ?_ (points_loop (.slice none 0 0) v [x] (by simp) 1 0 (.slice none 0 0) H2 rfl h5)
  rintro v' H' ⟨o, rfl, h6⟩
  exact ⟨_, rfl, h6.to⟩

/-! ### The given comparisons -/
theorem help_plain_nil : Sp n_help_Plainapi_Packet [.slice none 0 0, .slice none 0 0] emp (fun _ : Unit => vb true) (fun _ => emp) := by
  have same : ∀ f : Value, Sp n_help_Sameapi_Packet [.slice none 0 0, .slice none 0 0, f] emp (fun _ : Unit => vb true) (fun _ => emp) := by
    intro f
    refine sp_of fun R H h => ?_
    refine wp_of (fun r => help_Sameapi_Packet_of _ _ _ H) ?_
    refine w_len ?_
    refine w_len ?_
    refine w_bind (neq_f rfl) ?_
    with_reducible repeat (first | refine w_bind (pick_t _ _) ?_ | refine w_bind (pick_f _ _) ?_ | refine w_bind gV_tt ?_ | refine w_bind gV_ff ?_ | refine w_bind gV_tf ?_ | refine w_bind gV_ft ?_ | refine w_bind gB_tf ?_ | refine w_bind gB_ft ?_ | refine w_gE_tf ?_ | refine w_gE_ft ?_ | refine w_gE_tt ?_ | refine w_gE_ff ?_ | refine w_onK_tf ?_ | refine w_onK_ft ?_ | refine w_onK_tt ?_ | refine w_onK_ff ?_ | refine w_gld_tt ?_ | refine w_gld_ff ?_ | refine w_gld_tf ?_ | refine w_gld_ft ?_ | refine w_gldN_tt ?_ | refine w_gldN_ff ?_ | refine w_gldN_tf ?_ | refine w_gldN_ft ?_ | refine w_gB_tt ?_ | refine w_gB_ff ?_ | refine w_bind un_not ?_ | refine w_cond_t ?_ | refine w_cond_f ?_ | refine w_bind gV_u ?_ | refine w_bind gB_u ?_ | refine w_gld_u ?_)
    refine wp_eq (help_Sameapi_Packet_k0_eq _ _ _ _ H) ?_
    refine wp_eq (help_Sameapi_Packet_k2_eq _ _ _ _ _ H) ?_
    refine wp_eq (help_Sameapi_Packet_k4_eq _ _ _ _ _ H) ?_
    refine w_len ?_
    refine w_bind (lss_f (by omega)) ?_
    with_reducible repeat (first | refine w_bind (pick_t _ _) ?_ | refine w_bind (pick_f _ _) ?_ | refine w_bind gV_tt ?_ | refine w_bind gV_ff ?_ | refine w_bind gV_tf ?_ | refine w_bind gV_ft ?_ | refine w_bind gB_tf ?_ | refine w_bind gB_ft ?_ | refine w_gE_tf ?_ | refine w_gE_ft ?_ | refine w_gE_tt ?_ | refine w_gE_ff ?_ | refine w_onK_tf ?_ | refine w_onK_ft ?_ | refine w_onK_tt ?_ | refine w_onK_ff ?_ | refine w_gld_tt ?_ | refine w_gld_ff ?_ | refine w_gld_tf ?_ | refine w_gld_ft ?_ | refine w_gldN_tt ?_ | refine w_gldN_ff ?_ | refine w_gldN_tf ?_ | refine w_gldN_ft ?_ | refine w_gB_tt ?_ | refine w_gB_ff ?_ | refine w_bind un_not ?_ | refine w_cond_t ?_ | refine w_cond_f ?_ | refine w_bind gV_u ?_ | refine w_bind gB_u ?_ | refine w_gld_u ?_)
    refine wp_eq (help_Sameapi_Packet_e3_0_eq _ H) ?_
    refine wp_eq (help_Sameapi_Packet_k1_eq _ H) ?_
    exact w_ret ⟨(), rfl, h⟩
  refine sp_of fun R H h => ?_
  refine wp_of (fun r => help_Plainapi_Packet_of _ _ H) ?_
  refine w_call h (same _) fun _ H1 h1 => ?_
  exact w_ret ⟨(), rfl, h1.to⟩
theorem help_ret (e : Int) : Sp n_help_Ret [.agg (retC e).toArray, .agg (retC e).toArray] emp (fun _ : Unit => vb true) (fun _ => emp) := by
  refine sp_of fun R H h => ?_
  refine wp_of (fun r => help_Ret_of _ _ H) ?_
  refine w_newC h fun b1 H1 h1 => ?_
  refine w_newC h1 fun b2 H2 h2 => ?_
  refine w_ld h2 end_f0 rfl ?_
  refine w_ld h2 end_f0 rfl ?_
  refine w_bind (eql_t rfl) ?_
  with_reducible repeat (first | refine w_bind (pick_t _ _) ?_ | refine w_bind (pick_f _ _) ?_ | refine w_bind gV_tt ?_ | refine w_bind gV_ff ?_ | refine w_bind gV_tf ?_ | refine w_bind gV_ft ?_ | refine w_bind gB_tf ?_ | refine w_bind gB_ft ?_ | refine w_gE_tf ?_ | refine w_gE_ft ?_ | refine w_gE_tt ?_ | refine w_gE_ff ?_ | refine w_onK_tf ?_ | refine w_onK_ft ?_ | refine w_onK_tt ?_ | refine w_onK_ff ?_ | refine w_gld_tt ?_ | refine w_gld_ff ?_ | refine w_gld_tf ?_ | refine w_gld_ft ?_ | refine w_gldN_tt ?_ | refine w_gldN_ff ?_ | refine w_gldN_tf ?_ | refine w_gldN_ft ?_ | refine w_gB_tt ?_ | refine w_gB_ff ?_ | refine w_bind un_not ?_ | refine w_cond_t ?_ | refine w_cond_f ?_ | refine w_bind gV_u ?_ | refine w_bind gB_u ?_ | refine w_gld_u ?_)
  refine w_ld h2 end_f0 rfl ?_
  with_reducible repeat (first | refine w_bind (pick_t _ _) ?_ | refine w_bind (pick_f _ _) ?_ | refine w_bind gV_tt ?_ | refine w_bind gV_ff ?_ | refine w_bind gV_tf ?_ | refine w_bind gV_ft ?_ | refine w_bind gB_tf ?_ | refine w_bind gB_ft ?_ | refine w_gE_tf ?_ | refine w_gE_ft ?_ | refine w_gE_tt ?_ | refine w_gE_ff ?_ | refine w_onK_tf ?_ | refine w_onK_ft ?_ | refine w_onK_tt ?_ | refine w_onK_ff ?_ | refine w_gld_tt ?_ | refine w_gld_ff ?_ | refine w_gld_tf ?_ | refine w_gld_ft ?_ | refine w_gldN_tt ?_ | refine w_gldN_ff ?_ | refine w_gldN_tf ?_ | refine w_gldN_ft ?_ | refine w_gB_tt ?_ | refine w_gB_ff ?_ | refine w_bind un_not ?_ | refine w_cond_t ?_ | refine w_cond_f ?_ | refine w_bind gV_u ?_ | refine w_bind gB_u ?_ | refine w_gld_u ?_)
  refine w_ld h2 end_f0 rfl ?_
  with_reducible repeat (first | refine w_bind (pick_t _ _) ?_ | refine w_bind (pick_f _ _) ?_ | refine w_bind gV_tt ?_ | refine w_bind gV_ff ?_ | refine w_bind gV_tf ?_ | refine w_bind gV_ft ?_ | refine w_bind gB_tf ?_ | refine w_bind gB_ft ?_ | refine w_gE_tf ?_ | refine w_gE_ft ?_ | refine w_gE_tt ?_ | refine w_gE_ff ?_ | refine w_onK_tf ?_ | refine w_onK_ft ?_ | refine w_onK_tt ?_ | refine w_onK_ff ?_ | refine w_gld_tt ?_ | refine w_gld_ff ?_ | refine w_gld_tf ?_ | refine w_gld_ft ?_ | refine w_gldN_tt ?_ | refine w_gldN_ff ?_ | refine w_gldN_tf ?_ | refine w_gldN_ft ?_ | refine w_gB_tt ?_ | refine w_gB_ff ?_ | refine w_bind un_not ?_ | refine w_cond_t ?_ | refine w_cond_f ?_ | refine w_bind gV_u ?_ | refine w_bind gB_u ?_ | refine w_gld_u ?_)
  refine w_bind (eql_t rfl) ?_
  with_reducible repeat (first | refine w_bind (pick_t _ _) ?_ | refine w_bind (pick_f _ _) ?_ | refine w_bind gV_tt ?_ | refine w_bind gV_ff ?_ | refine w_bind gV_tf ?_ | refine w_bind gV_ft ?_ | refine w_bind gB_tf ?_ | refine w_bind gB_ft ?_ | refine w_gE_tf ?_ | refine w_gE_ft ?_ | refine w_gE_tt ?_ | refine w_gE_ff ?_ | refine w_onK_tf ?_ | refine w_onK_ft ?_ | refine w_onK_tt ?_ | refine w_onK_ff ?_ | refine w_gld_tt ?_ | refine w_gld_ff ?_ | refine w_gld_tf ?_ | refine w_gld_ft ?_ | refine w_gldN_tt ?_ | refine w_gldN_ff ?_ | refine w_gldN_tf ?_ | refine w_gldN_ft ?_ | refine w_gB_tt ?_ | refine w_gB_ff ?_ | refine w_bind un_not ?_ | refine w_cond_t ?_ | refine w_cond_f ?_ | refine w_bind gV_u ?_ | refine w_bind gB_u ?_ | refine w_gld_u ?_)
  refine w_ld h2 end_f0 rfl ?_
  with_reducible repeat (first | refine w_bind (pick_t _ _) ?_ | refine w_bind (pick_f _ _) ?_ | refine w_bind gV_tt ?_ | refine w_bind gV_ff ?_ | refine w_bind gV_tf ?_ | refine w_bind gV_ft ?_ | refine w_bind gB_tf ?_ | refine w_bind gB_ft ?_ | refine w_gE_tf ?_ | refine w_gE_ft ?_ | refine w_gE_tt ?_ | refine w_gE_ff ?_ | refine w_onK_tf ?_ | refine w_onK_ft ?_ | refine w_onK_tt ?_ | refine w_onK_ff ?_ | refine w_gld_tt ?_ | refine w_gld_ff ?_ | refine w_gld_tf ?_ | refine w_gld_ft ?_ | refine w_gldN_tt ?_ | refine w_gldN_ff ?_ | refine w_gldN_tf ?_ | refine w_gldN_ft ?_ | refine w_gB_tt ?_ | refine w_gB_ff ?_ | refine w_bind un_not ?_ | refine w_cond_t ?_ | refine w_cond_f ?_ | refine w_bind gV_u ?_ | refine w_bind gB_u ?_ | refine w_gld_u ?_)
  refine w_ld h2 end_f0 rfl ?_
  with_reducible repeat (first | refine w_bind (pick_t _ _) ?_ | refine w_bind (pick_f _ _) ?_ | refine w_bind gV_tt ?_ | refine w_bind gV_ff ?_ | refine w_bind gV_tf ?_ | refine w_bind gV_ft ?_ | refine w_bind gB_tf ?_ | refine w_bind gB_ft ?_ | refine w_gE_tf ?_ | refine w_gE_ft ?_ | refine w_gE_tt ?_ | refine w_gE_ff ?_ | refine w_onK_tf ?_ | refine w_onK_ft ?_ | refine w_onK_tt ?_ | refine w_onK_ff ?_ | refine w_gld_tt ?_ | refine w_gld_ff ?_ | refine w_gld_tf ?_ | refine w_gld_ft ?_ | refine w_gldN_tt ?_ | refine w_gldN_ff ?_ | refine w_gldN_tf ?_ | refine w_gldN_ft ?_ | refine w_gB_tt ?_ | refine w_gB_ff ?_ | refine w_bind un_not ?_ | refine w_cond_t ?_ | refine w_cond_f ?_ | refine w_bind gV_u ?_ | refine w_bind gB_u ?_ | refine w_gld_u ?_)
  refine w_bind (eql_t rfl) ?_
  with_reducible repeat (first | refine w_bind (pick_t _ _) ?_ | refine w_bind (pick_f _ _) ?_ | refine w_bind gV_tt ?_ | refine w_bind gV_ff ?_ | refine w_bind gV_tf ?_ | refine w_bind gV_ft ?_ | refine w_bind gB_tf ?_ | refine w_bind gB_ft ?_ | refine w_gE_tf ?_ | refine w_gE_ft ?_ | refine w_gE_tt ?_ | refine w_gE_ff ?_ | refine w_onK_tf ?_ | refine w_onK_ft ?_ | refine w_onK_tt ?_ | refine w_onK_ff ?_ | refine w_gld_tt ?_ | refine w_gld_ff ?_ | refine w_gld_tf ?_ | refine w_gld_ft ?_ | refine w_gldN_tt ?_ | refine w_gldN_ff ?_ | refine w_gldN_tf ?_ | refine w_gldN_ft ?_ | refine w_gB_tt ?_ | refine w_gB_ff ?_ | refine w_bind un_not ?_ | refine w_cond_t ?_ | refine w_cond_f ?_ | refine w_bind gV_u ?_ | refine w_bind gB_u ?_ | refine w_gld_u ?_)
  refine w_ld h2 end_f0 rfl ?_
  with_reducible repeat (first | refine w_bind (pick_t _ _) ?_ | refine w_bind (pick_f _ _) ?_ | refine w_bind gV_tt ?_ | refine w_bind gV_ff ?_ | refine w_bind gV_tf ?_ | refine w_bind gV_ft ?_ | refine w_bind gB_tf ?_ | refine w_bind gB_ft ?_ | refine w_gE_tf ?_ | refine w_gE_ft ?_ | refine w_gE_tt ?_ | refine w_gE_ff ?_ | refine w_onK_tf ?_ | refine w_onK_ft ?_ | refine w_onK_tt ?_ | refine w_onK_ff ?_ | refine w_gld_tt ?_ | refine w_gld_ff ?_ | refine w_gld_tf ?_ | refine w_gld_ft ?_ | refine w_gldN_tt ?_ | refine w_gldN_ff ?_ | refine w_gldN_tf ?_ | refine w_gldN_ft ?_ | refine w_gB_tt ?_ | refine w_gB_ff ?_ | refine w_bind un_not ?_ | refine w_cond_t ?_ | refine w_cond_f ?_ | refine w_bind gV_u ?_ | refine w_bind gB_u ?_ | refine w_gld_u ?_)
  refine w_ld h2 end_f0 rfl ?_
  with_reducible repeat (first | refine w_bind (pick_t _ _) ?_ | refine w_bind (pick_f _ _) ?_ | refine w_bind gV_tt ?_ | refine w_bind gV_ff ?_ | refine w_bind gV_tf ?_ | refine w_bind gV_ft ?_ | refine w_bind gB_tf ?_ | refine w_bind gB_ft ?_ | refine w_gE_tf ?_ | refine w_gE_ft ?_ | refine w_gE_tt ?_ | refine w_gE_ff ?_ | refine w_onK_tf ?_ | refine w_onK_ft ?_ | refine w_onK_tt ?_ | refine w_onK_ff ?_ | refine w_gld_tt ?_ | refine w_gld_ff ?_ | refine w_gld_tf ?_ | refine w_gld_ft ?_ | refine w_gldN_tt ?_ | refine w_gldN_ff ?_ | refine w_gldN_tf ?_ | refine w_gldN_ft ?_ | refine w_gB_tt ?_ | refine w_gB_ff ?_ | refine w_bind un_not ?_ | refine w_cond_t ?_ | refine w_cond_f ?_ | refine w_bind gV_u ?_ | refine w_bind gB_u ?_ | refine w_gld_u ?_)
  refine w_call h2 help_plain_nil fun _ H3 h3 => ?_
  with_reducible repeat (first | refine w_bind (pick_t _ _) ?_ | refine w_bind (pick_f _ _) ?_ | refine w_bind gV_tt ?_ | refine w_bind gV_ff ?_ | refine w_bind gV_tf ?_ | refine w_bind gV_ft ?_ | refine w_bind gB_tf ?_ | refine w_bind gB_ft ?_ | refine w_gE_tf ?_ | refine w_gE_ft ?_ | refine w_gE_tt ?_ | refine w_gE_ff ?_ | refine w_onK_tf ?_ | refine w_onK_ft ?_ | refine w_onK_tt ?_ | refine w_onK_ff ?_ | refine w_gld_tt ?_ | refine w_gld_ff ?_ | refine w_gld_tf ?_ | refine w_gld_ft ?_ | refine w_gldN_tt ?_ | refine w_gldN_ff ?_ | refine w_gldN_tf ?_ | refine w_gldN_ft ?_ | refine w_gB_tt ?_ | refine w_gB_ff ?_ | refine w_bind un_not ?_ | refine w_cond_t ?_ | refine w_cond_f ?_ | refine w_bind gV_u ?_ | refine w_bind gB_u ?_ | refine w_gld_u ?_)
  exact w_ret ⟨(), rfl, h3.to⟩
theorem help_point (x : Pt) : Sp n_help_Point [.agg (Pt.cells x).toArray, .agg (Pt.cells x).toArray] emp (fun _ : Unit => vb true) (fun _ => emp) := by
  refine sp_of fun R H h => ?_
  refine wp_of (fun r => help_Point_of _ _ H) ?_
  refine w_newC h fun b1 H1 h1 => ?_
  refine w_newC h1 fun b2 H2 h2 => ?_
  refine w_ld h2 end_f0 rfl ?_
  refine w_ld h2 end_f0 rfl ?_
  refine w_bind (eql_t rfl) ?_
  with_reducible repeat (first | refine w_bind (pick_t _ _) ?_ | refine w_bind (pick_f _ _) ?_ | refine w_bind gV_tt ?_ | refine w_bind gV_ff ?_ | refine w_bind gV_tf ?_ | refine w_bind gV_ft ?_ | refine w_bind gB_tf ?_ | refine w_bind gB_ft ?_ | refine w_gE_tf ?_ | refine w_gE_ft ?_ | refine w_gE_tt ?_ | refine w_gE_ff ?_ | refine w_onK_tf ?_ | refine w_onK_ft ?_ | refine w_onK_tt ?_ | refine w_onK_ff ?_ | refine w_gld_tt ?_ | refine w_gld_ff ?_ | refine w_gld_tf ?_ | refine w_gld_ft ?_ | refine w_gldN_tt ?_ | refine w_gldN_ff ?_ | refine w_gldN_tf ?_ | refine w_gldN_ft ?_ | refine w_gB_tt ?_ | refine w_gB_ff ?_ | refine w_bind un_not ?_ | refine w_cond_t ?_ | refine w_cond_f ?_ | refine w_bind gV_u ?_ | refine w_bind gB_u ?_ | refine w_gld_u ?_)
  refine w_ld h2 end_f0 rfl ?_
  with_reducible repeat (first | refine w_bind (pick_t _ _) ?_ | refine w_bind (pick_f _ _) ?_ | refine w_bind gV_tt ?_ | refine w_bind gV_ff ?_ | refine w_bind gV_tf ?_ | refine w_bind gV_ft ?_ | refine w_bind gB_tf ?_ | refine w_bind gB_ft ?_ | refine w_gE_tf ?_ | refine w_gE_ft ?_ | refine w_gE_tt ?_ | refine w_gE_ff ?_ | refine w_onK_tf ?_ | refine w_onK_ft ?_ | refine w_onK_tt ?_ | refine w_onK_ff ?_ | refine w_gld_tt ?_ | refine w_gld_ff ?_ | refine w_gld_tf ?_ | refine w_gld_ft ?_ | refine w_gldN_tt ?_ | refine w_gldN_ff ?_ | refine w_gldN_tf ?_ | refine w_gldN_ft ?_ | refine w_gB_tt ?_ | refine w_gB_ff ?_ | refine w_bind un_not ?_ | refine w_cond_t ?_ | refine w_cond_f ?_ | refine w_bind gV_u ?_ | refine w_bind gB_u ?_ | refine w_gld_u ?_)
  refine w_ld h2 end_f0 rfl ?_
  with_reducible repeat (first | refine w_bind (pick_t _ _) ?_ | refine w_bind (pick_f _ _) ?_ | refine w_bind gV_tt ?_ | refine w_bind gV_ff ?_ | refine w_bind gV_tf ?_ | refine w_bind gV_ft ?_ | refine w_bind gB_tf ?_ | refine w_bind gB_ft ?_ | refine w_gE_tf ?_ | refine w_gE_ft ?_ | refine w_gE_tt ?_ | refine w_gE_ff ?_ | refine w_onK_tf ?_ | refine w_onK_ft ?_ | refine w_onK_tt ?_ | refine w_onK_ff ?_ | refine w_gld_tt ?_ | refine w_gld_ff ?_ | refine w_gld_tf ?_ | refine w_gld_ft ?_ | refine w_gldN_tt ?_ | refine w_gldN_ff ?_ | refine w_gldN_tf ?_ | refine w_gldN_ft ?_ | refine w_gB_tt ?_ | refine w_gB_ff ?_ | refine w_bind un_not ?_ | refine w_cond_t ?_ | refine w_cond_f ?_ | refine w_bind gV_u ?_ | refine w_bind gB_u ?_ | refine w_gld_u ?_)
  refine w_bind (eql_t rfl) ?_
  with_reducible repeat (first | refine w_bind (pick_t _ _) ?_ | refine w_bind (pick_f _ _) ?_ | refine w_bind gV_tt ?_ | refine w_bind gV_ff ?_ | refine w_bind gV_tf ?_ | refine w_bind gV_ft ?_ | refine w_bind gB_tf ?_ | refine w_bind gB_ft ?_ | refine w_gE_tf ?_ | refine w_gE_ft ?_ | refine w_gE_tt ?_ | refine w_gE_ff ?_ | refine w_onK_tf ?_ | refine w_onK_ft ?_ | refine w_onK_tt ?_ | refine w_onK_ff ?_ | refine w_gld_tt ?_ | refine w_gld_ff ?_ | refine w_gld_tf ?_ | refine w_gld_ft ?_ | refine w_gldN_tt ?_ | refine w_gldN_ff ?_ | refine w_gldN_tf ?_ | refine w_gldN_ft ?_ | refine w_gB_tt ?_ | refine w_gB_ff ?_ | refine w_bind un_not ?_ | refine w_cond_t ?_ | refine w_cond_f ?_ | refine w_bind gV_u ?_ | refine w_bind gB_u ?_ | refine w_gld_u ?_)
  refine w_ld h2 end_f0 rfl ?_
  with_reducible repeat (first | refine w_bind (pick_t _ _) ?_ | refine w_bind (pick_f _ _) ?_ | refine w_bind gV_tt ?_ | refine w_bind gV_ff ?_ | refine w_bind gV_tf ?_ | refine w_bind gV_ft ?_ | refine w_bind gB_tf ?_ | refine w_bind gB_ft ?_ | refine w_gE_tf ?_ | refine w_gE_ft ?_ | refine w_gE_tt ?_ | refine w_gE_ff ?_ | refine w_onK_tf ?_ | refine w_onK_ft ?_ | refine w_onK_tt ?_ | refine w_onK_ff ?_ | refine w_gld_tt ?_ | refine w_gld_ff ?_ | refine w_gld_tf ?_ | refine w_gld_ft ?_ | refine w_gldN_tt ?_ | refine w_gldN_ff ?_ | refine w_gldN_tf ?_ | refine w_gldN_ft ?_ | refine w_gB_tt ?_ | refine w_gB_ff ?_ | refine w_bind un_not ?_ | refine w_cond_t ?_ | refine w_cond_f ?_ | refine w_bind gV_u ?_ | refine w_bind gB_u ?_ | refine w_gld_u ?_)
  refine w_ld h2 end_f0 rfl ?_
  with_reducible repeat (first | refine w_bind (pick_t _ _) ?_ | refine w_bind (pick_f _ _) ?_ | refine w_bind gV_tt ?_ | refine w_bind gV_ff ?_ | refine w_bind gV_tf ?_ | refine w_bind gV_ft ?_ | refine w_bind gB_tf ?_ | refine w_bind gB_ft ?_ | refine w_gE_tf ?_ | refine w_gE_ft ?_ | refine w_gE_tt ?_ | refine w_gE_ff ?_ | refine w_onK_tf ?_ | refine w_onK_ft ?_ | refine w_onK_tt ?_ | refine w_onK_ff ?_ | refine w_gld_tt ?_ | refine w_gld_ff ?_ | refine w_gld_tf ?_ | refine w_gld_ft ?_ | refine w_gldN_tt ?_ | refine w_gldN_ff ?_ | refine w_gldN_tf ?_ | refine w_gldN_ft ?_ | refine w_gB_tt ?_ | refine w_gB_ff ?_ | refine w_bind un_not ?_ | refine w_cond_t ?_ | refine w_cond_f ?_ | refine w_bind gV_u ?_ | refine w_bind gB_u ?_ | refine w_gld_u ?_)
  refine w_bind (eql_t rfl) ?_
  with_reducible repeat (first | refine w_bind (pick_t _ _) ?_ | refine w_bind (pick_f _ _) ?_ | refine w_bind gV_tt ?_ | refine w_bind gV_ff ?_ | refine w_bind gV_tf ?_ | refine w_bind gV_ft ?_ | refine w_bind gB_tf ?_ | refine w_bind gB_ft ?_ | refine w_gE_tf ?_ | refine w_gE_ft ?_ | refine w_gE_tt ?_ | refine w_gE_ff ?_ | refine w_onK_tf ?_ | refine w_onK_ft ?_ | refine w_onK_tt ?_ | refine w_onK_ff ?_ | refine w_gld_tt ?_ | refine w_gld_ff ?_ | refine w_gld_tf ?_ | refine w_gld_ft ?_ | refine w_gldN_tt ?_ | refine w_gldN_ff ?_ | refine w_gldN_tf ?_ | refine w_gldN_ft ?_ | refine w_gB_tt ?_ | refine w_gB_ff ?_ | refine w_bind un_not ?_ | refine w_cond_t ?_ | refine w_cond_f ?_ | refine w_bind gV_u ?_ | refine w_bind gB_u ?_ | refine w_gld_u ?_)
  refine w_ldN h2 end_f0 ?_
  with_reducible repeat (first | refine w_bind (pick_t _ _) ?_ | refine w_bind (pick_f _ _) ?_ | refine w_bind gV_tt ?_ | refine w_bind gV_ff ?_ | refine w_bind gV_tf ?_ | refine w_bind gV_ft ?_ | refine w_bind gB_tf ?_ | refine w_bind gB_ft ?_ | refine w_gE_tf ?_ | refine w_gE_ft ?_ | refine w_gE_tt ?_ | refine w_gE_ff ?_ | refine w_onK_tf ?_ | refine w_onK_ft ?_ | refine w_onK_tt ?_ | refine w_onK_ff ?_ | refine w_gld_tt ?_ | refine w_gld_ff ?_ | refine w_gld_tf ?_ | refine w_gld_ft ?_ | refine w_gldN_tt ?_ | refine w_gldN_ff ?_ | refine w_gldN_tf ?_ | refine w_gldN_ft ?_ | refine w_gB_tt ?_ | refine w_gB_ff ?_ | refine w_bind un_not ?_ | refine w_cond_t ?_ | refine w_cond_f ?_ | refine w_bind gV_u ?_ | refine w_bind gB_u ?_ | refine w_gld_u ?_)
  refine w_ldN h2 end_f0 ?_
  with_reducible repeat (first | refine w_bind (pick_t _ _) ?_ | refine w_bind (pick_f _ _) ?_ | refine w_bind gV_tt ?_ | refine w_bind gV_ff ?_ | refine w_bind gV_tf ?_ | refine w_bind gV_ft ?_ | refine w_bind gB_tf ?_ | refine w_bind gB_ft ?_ | refine w_gE_tf ?_ | refine w_gE_ft ?_ | refine w_gE_tt ?_ | refine w_gE_ff ?_ | refine w_onK_tf ?_ | refine w_onK_ft ?_ | refine w_onK_tt ?_ | refine w_onK_ff ?_ | refine w_gld_tt ?_ | refine w_gld_ff ?_ | refine w_gld_tf ?_ | refine w_gld_ft ?_ | refine w_gldN_tt ?_ | refine w_gldN_ff ?_ | refine w_gldN_tf ?_ | refine w_gldN_ft ?_ | refine w_gB_tt ?_ | refine w_gB_ff ?_ | refine w_bind un_not ?_ | refine w_cond_t ?_ | refine w_cond_f ?_ | refine w_bind gV_u ?_ | refine w_bind gB_u ?_ | refine w_gld_u ?_)
  refine w_call h2 (help_ret x.e) fun _ H3 h3 => ?_
  with_reducible repeat (first | refine w_bind (pick_t _ _) ?_ | refine w_bind (pick_f _ _) ?_ | refine w_bind gV_tt ?_ | refine w_bind gV_ff ?_ | refine w_bind gV_tf ?_ | refine w_bind gV_ft ?_ | refine w_bind gB_tf ?_ | refine w_bind gB_ft ?_ | refine w_gE_tf ?_ | refine w_gE_ft ?_ | refine w_gE_tt ?_ | refine w_gE_ff ?_ | refine w_onK_tf ?_ | refine w_onK_ft ?_ | refine w_onK_tt ?_ | refine w_onK_ff ?_ | refine w_gld_tt ?_ | refine w_gld_ff ?_ | refine w_gld_tf ?_ | refine w_gld_ft ?_ | refine w_gldN_tt ?_ | refine w_gldN_ff ?_ | refine w_gldN_tf ?_ | refine w_gldN_ft ?_ | refine w_gB_tt ?_ | refine w_gB_ff ?_ | refine w_bind un_not ?_ | refine w_cond_t ?_ | refine w_cond_f ?_ | refine w_bind gV_u ?_ | refine w_bind gB_u ?_ | refine w_gld_u ?_)
  exact w_ret ⟨(), rfl, h3.to⟩
end Go.Proofs.YtodpbobjmkhcfaaGreatDoor.Gst
