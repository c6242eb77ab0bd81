/- The statement on offers that may not be, of the abstract run. -/
import Derived.Test.YtodpbobjmkhcfaaGreatDoorRf
import Derived.Test.YtodpbobjmkhcfaaGreatDoorJd
namespace Go.Proofs.YtodpbobjmkhcfaaGreatDoor.Gst
open Go Go.RowKit
set_option linter.unusedSimpArgs false
set_option linter.unusedVariables false
set_option maxHeartbeats 1000000
set_option synthInstance.maxSize 2000
set_option synthInstance.maxHeartbeats 400000

theorem w_awake23 {P : SP} {H : AH} {k : Value × AH → OV} {Q : Value → AH → Prop} (h : Holds P H) [i : Hs P 0 (.cells true tabC)] (hk : ∀ H', Holds P H' → wp (k (vb true, H')) Q) : wp ((FF n_l23_awake [] H).bind k) Q := by
  obtain ⟨H', e, _, hg⟩ := closed_law (D := []) (fun j hj => by cases hj) (by decide) awake_run (i.get h)
  have e' : FF n_l23_awake [] H = some (vb true, H') := e
  rw [e']
  exact hk H' (h.keeps hg)
theorem made_pts (c : Cfg) : ∀ n, (Sta.made c n).pts = [] := by
  intro n
  induction n with
  | zero => rfl
  | succ n ih =>
    unfold Sta.made
    split
    · exact ih
    · exact ih
section
variable {p xx b b2 : Nat} {σ : Sta} {R : SP}
theorem refused_tail (x : Cl) (code who place now : Int) (x10 : Value) (hx : refusal x = some code) (hc : rightB σ.c = true) (hp : σ.pts = []) {H : AH}
    (h : Holds (blk b (.cells false [vp p, vp xx]) * (blk b2 (.cells false (Cl.cells x)) * (partsP p σ * R))) H) : wp (l23_EnqRefused_k1 (vi who) (vi place) (vi now) (vp b2) x10 (vp b) (vi code) H) fun v' _ => v' = vb true := by
  refine wp_eq (l23_EnqRefused_k1_eq _ _ _ _ _ _ _ H) ?_
  refine w_ld h end_f0 rfl ?_
  obtain ⟨g, hg, k0⟩ := partsP_open (p := p) (σ := σ) (R := blk b (.cells false [vp p, vp xx]) * (blk b2 (.cells false (Cl.cells x)) * R)) (H := H) h.to
  unfold partsB at k0
  refine w_ld k0 end_nf rfl ?_
  refine w_call k0 (mem_len g.m σ.μ) fun _ H1 k1 => ?_
  have h1 : Holds (partsP p σ * (blk b (.cells false [vp p, vp xx]) * (blk b2 (.cells false (Cl.cells x)) * R))) H1 := by
    refine partsP_close g hg ?_
    unfold partsB
    exact k1.to
  refine w_ld h1 end_f0 rfl ?_
  refine w_call h1 (parts_begin p σ who place) fun _ H2 h2 => ?_
  refine w_ld h2 end_f0 rfl ?_
  refine w_LdN h2 ?_
  refine w_call h2 (enq_new p { σ with places := fun k => if k = who then some place else σ.places k } hc who x) fun e H3 h3 => ?_
  refine w_bind (ptr_ne _) ?_
  with_reducible repeat (first | refine w_bind (pick_t _ _) ?_ | refine w_bind (pick_f _ _) ?_ | refine w_bind gV_tt ?_ | refine w_bind gV_ff ?_ | refine w_bind gV_tf ?_ | refine w_bind gV_ft ?_ | refine w_bind gB_tf ?_ | refine w_bind gB_ft ?_ | refine w_gE_tf ?_ | refine w_gE_ft ?_ | refine w_gE_tt ?_ | refine w_gE_ff ?_ | refine w_onK_tf ?_ | refine w_onK_ft ?_ | refine w_onK_tt ?_ | refine w_onK_ff ?_ | refine w_gld_tt ?_ | refine w_gld_ff ?_ | refine w_gld_tf ?_ | refine w_gld_ft ?_ | refine w_gldN_tt ?_ | refine w_gldN_ff ?_ | refine w_gldN_tf ?_ | refine w_gldN_ft ?_ | refine w_gB_tt ?_ | refine w_gB_ff ?_ | refine w_bind un_not ?_ | refine w_cond_t ?_ | refine w_cond_f ?_ | refine w_bind gV_u ?_ | refine w_bind gB_u ?_ | refine w_gld_u ?_)
  obtain ⟨s, h3b⟩ : ∃ s : Int, Holds (enqNew e p who x s * (partsP p { σ with places := fun k => if k = who then some place else σ.places k } * (blk b (.cells false [vp p, vp xx]) * (blk b2 (.cells false (Cl.cells x)) * R)))) H3 := Holds.ex.1 (show Holds ((ex fun s : Int => enqNew e p who x s) * (partsP p { σ with places := fun k => if k = who then some place else σ.places k } * (blk b (.cells false [vp p, vp xx]) * (blk b2 (.cells false (Cl.cells x)) * R)))) H3 from h3.to)
  refine w_call h3b (enq_step_refused p e { σ with places := fun k => if k = who then some place else σ.places k } who x s now code hx (by rw [hp]; simp)) fun _ H4 h4 => ?_
  refine w_bind (v := .agg (retC code).toArray) rfl ?_
  refine w_bind (v := vb true) rfl ?_
  refine w_new h4 fun b4 H5 h5 => ?_
  refine w_St h5 rfl rfl fun H6 h6 => ?_
  refine w_ld h6 end_f0 rfl ?_
  have hpt : (({ σ with places := fun k => if k = who then some place else σ.places k } : Sta).note now who code).pts = [⟨now, who, place, code⟩] := by
    simp [Sta.note, hp]
  refine w_call h6 (points_one p _ ⟨now, who, place, code⟩ hpt) fun v H7 h7 => ?_
  with_reducible repeat (first | refine w_bind (pick_t _ _) ?_ | refine w_bind (pick_f _ _) ?_ | refine w_bind gV_tt ?_ | refine w_bind gV_ff ?_ | refine w_bind gV_tf ?_ | refine w_bind gV_ft ?_ | refine w_bind gB_tf ?_ | refine w_bind gB_ft ?_ | refine w_gE_tf ?_ | refine w_gE_ft ?_ | refine w_gE_tt ?_ | refine w_gE_ff ?_ | refine w_onK_tf ?_ | refine w_onK_ft ?_ | refine w_onK_tt ?_ | refine w_onK_ff ?_ | refine w_gld_tt ?_ | refine w_gld_ff ?_ | refine w_gld_tf ?_ | refine w_gld_ft ?_ | refine w_gldN_tt ?_ | refine w_gldN_ff ?_ | refine w_gldN_tf ?_ | refine w_gldN_ft ?_ | refine w_gB_tt ?_ | refine w_gB_ff ?_ | refine w_bind un_not ?_ | refine w_cond_t ?_ | refine w_cond_f ?_ | refine w_bind gV_u ?_ | refine w_bind gB_u ?_ | refine w_gld_u ?_)
  refine w_LdN h7 ?_
  with_reducible repeat (first | refine w_bind (pick_t _ _) ?_ | refine w_bind (pick_f _ _) ?_ | refine w_bind gV_tt ?_ | refine w_bind gV_ff ?_ | refine w_bind gV_tf ?_ | refine w_bind gV_ft ?_ | refine w_bind gB_tf ?_ | refine w_bind gB_ft ?_ | refine w_gE_tf ?_ | refine w_gE_ft ?_ | refine w_gE_tt ?_ | refine w_gE_ff ?_ | refine w_onK_tf ?_ | refine w_onK_ft ?_ | refine w_onK_tt ?_ | refine w_onK_ff ?_ | refine w_gld_tt ?_ | refine w_gld_ff ?_ | refine w_gld_tf ?_ | refine w_gld_ft ?_ | refine w_gldN_tt ?_ | refine w_gldN_ff ?_ | refine w_gldN_tf ?_ | refine w_gldN_ft ?_ | refine w_gB_tt ?_ | refine w_gB_ff ?_ | refine w_bind un_not ?_ | refine w_cond_t ?_ | refine w_cond_f ?_ | refine w_bind gV_u ?_ | refine w_bind gB_u ?_ | refine w_gld_u ?_)
  refine w_bind (v := .agg (retC code).toArray) rfl ?_
  with_reducible repeat (first | refine w_bind (pick_t _ _) ?_ | refine w_bind (pick_f _ _) ?_ | refine w_bind gV_tt ?_ | refine w_bind gV_ff ?_ | refine w_bind gV_tf ?_ | refine w_bind gV_ft ?_ | refine w_bind gB_tf ?_ | refine w_bind gB_ft ?_ | refine w_gE_tf ?_ | refine w_gE_ft ?_ | refine w_gE_tt ?_ | refine w_gE_ff ?_ | refine w_onK_tf ?_ | refine w_onK_ft ?_ | refine w_onK_tt ?_ | refine w_onK_ff ?_ | refine w_gld_tt ?_ | refine w_gld_ff ?_ | refine w_gld_tf ?_ | refine w_gld_ft ?_ | refine w_gldN_tt ?_ | refine w_gldN_ff ?_ | refine w_gldN_tf ?_ | refine w_gldN_ft ?_ | refine w_gB_tt ?_ | refine w_gB_ff ?_ | refine w_bind un_not ?_ | refine w_cond_t ?_ | refine w_cond_f ?_ | refine w_bind gV_u ?_ | refine w_bind gB_u ?_ | refine w_gld_u ?_)
  refine w_call h7 (help_ret code) fun _ H8 h8 => ?_
  with_reducible repeat (first | refine w_bind (pick_t _ _) ?_ | refine w_bind (pick_f _ _) ?_ | refine w_bind gV_tt ?_ | refine w_bind gV_ff ?_ | refine w_bind gV_tf ?_ | refine w_bind gV_ft ?_ | refine w_bind gB_tf ?_ | refine w_bind gB_ft ?_ | refine w_gE_tf ?_ | refine w_gE_ft ?_ | refine w_gE_tt ?_ | refine w_gE_ff ?_ | refine w_onK_tf ?_ | refine w_onK_ft ?_ | refine w_onK_tt ?_ | refine w_onK_ff ?_ | refine w_gld_tt ?_ | refine w_gld_ff ?_ | refine w_gld_tf ?_ | refine w_gld_ft ?_ | refine w_gldN_tt ?_ | refine w_gldN_ff ?_ | refine w_gldN_tf ?_ | refine w_gldN_ft ?_ | refine w_gB_tt ?_ | refine w_gB_ff ?_ | refine w_bind un_not ?_ | refine w_cond_t ?_ | refine w_cond_f ?_ | refine w_bind gV_u ?_ | refine w_bind gB_u ?_ | refine w_gld_u ?_)
  refine w_ld h8 end_f0 rfl ?_
  with_reducible repeat (first | refine w_bind (pick_t _ _) ?_ | refine w_bind (pick_f _ _) ?_ | refine w_bind gV_tt ?_ | refine w_bind gV_ff ?_ | refine w_bind gV_tf ?_ | refine w_bind gV_ft ?_ | refine w_bind gB_tf ?_ | refine w_bind gB_ft ?_ | refine w_gE_tf ?_ | refine w_gE_ft ?_ | refine w_gE_tt ?_ | refine w_gE_ff ?_ | refine w_onK_tf ?_ | refine w_onK_ft ?_ | refine w_onK_tt ?_ | refine w_onK_ff ?_ | refine w_gld_tt ?_ | refine w_gld_ff ?_ | refine w_gld_tf ?_ | refine w_gld_ft ?_ | refine w_gldN_tt ?_ | refine w_gldN_ff ?_ | refine w_gldN_tf ?_ | refine w_gldN_ft ?_ | refine w_gB_tt ?_ | refine w_gB_ff ?_ | refine w_bind un_not ?_ | refine w_cond_t ?_ | refine w_cond_f ?_ | refine w_bind gV_u ?_ | refine w_bind gB_u ?_ | refine w_gld_u ?_)
  obtain ⟨g2, hg2, k8⟩ := partsP_open (p := p) (σ := ({ σ with places := fun k => if k = who then some place else σ.places k } : Sta).note now who code)
    (R := blk b (.cells false [vp p, vp xx]) * (blk b4 (.cells false (retC code)) * (ts 7 Pt.cells v [⟨now, who, place, code⟩] * R))) (H := H8) h8.to
  unfold partsB at k8
  refine w_ld k8 end_nf rfl ?_
  with_reducible repeat (first | refine w_bind (pick_t _ _) ?_ | refine w_bind (pick_f _ _) ?_ | refine w_bind gV_tt ?_ | refine w_bind gV_ff ?_ | refine w_bind gV_tf ?_ | refine w_bind gV_ft ?_ | refine w_bind gB_tf ?_ | refine w_bind gB_ft ?_ | refine w_gE_tf ?_ | refine w_gE_ft ?_ | refine w_gE_tt ?_ | refine w_gE_ff ?_ | refine w_onK_tf ?_ | refine w_onK_ft ?_ | refine w_onK_tt ?_ | refine w_onK_ff ?_ | refine w_gld_tt ?_ | refine w_gld_ff ?_ | refine w_gld_tf ?_ | refine w_gld_ft ?_ | refine w_gldN_tt ?_ | refine w_gldN_ff ?_ | refine w_gldN_tf ?_ | refine w_gldN_ft ?_ | refine w_gB_tt ?_ | refine w_gB_ff ?_ | refine w_bind un_not ?_ | refine w_cond_t ?_ | refine w_cond_f ?_ | refine w_bind gV_u ?_ | refine w_bind gB_u ?_ | refine w_gld_u ?_)
  refine w_call k8 (mem_len g2.m σ.μ) fun _ H9 h9 => ?_
  with_reducible repeat (first | refine w_bind (pick_t _ _) ?_ | refine w_bind (pick_f _ _) ?_ | refine w_bind gV_tt ?_ | refine w_bind gV_ff ?_ | refine w_bind gV_tf ?_ | refine w_bind gV_ft ?_ | refine w_bind gB_tf ?_ | refine w_bind gB_ft ?_ | refine w_gE_tf ?_ | refine w_gE_ft ?_ | refine w_gE_tt ?_ | refine w_gE_ff ?_ | refine w_onK_tf ?_ | refine w_onK_ft ?_ | refine w_onK_tt ?_ | refine w_onK_ff ?_ | refine w_gld_tt ?_ | refine w_gld_ff ?_ | refine w_gld_tf ?_ | refine w_gld_ft ?_ | refine w_gldN_tt ?_ | refine w_gldN_ff ?_ | refine w_gldN_tf ?_ | refine w_gldN_ft ?_ | refine w_gB_tt ?_ | refine w_gB_ff ?_ | refine w_bind un_not ?_ | refine w_cond_t ?_ | refine w_cond_f ?_ | refine w_bind gV_u ?_ | refine w_bind gB_u ?_ | refine w_gld_u ?_)
  refine w_bind (eql_t rfl) ?_
  with_reducible repeat (first | refine w_bind (pick_t _ _) ?_ | refine w_bind (pick_f _ _) ?_ | refine w_bind gV_tt ?_ | refine w_bind gV_ff ?_ | refine w_bind gV_tf ?_ | refine w_bind gV_ft ?_ | refine w_bind gB_tf ?_ | refine w_bind gB_ft ?_ | refine w_gE_tf ?_ | refine w_gE_ft ?_ | refine w_gE_tt ?_ | refine w_gE_ff ?_ | refine w_onK_tf ?_ | refine w_onK_ft ?_ | refine w_onK_tt ?_ | refine w_onK_ff ?_ | refine w_gld_tt ?_ | refine w_gld_ff ?_ | refine w_gld_tf ?_ | refine w_gld_ft ?_ | refine w_gldN_tt ?_ | refine w_gldN_ff ?_ | refine w_gldN_tf ?_ | refine w_gldN_ft ?_ | refine w_gB_tt ?_ | refine w_gB_ff ?_ | refine w_bind un_not ?_ | refine w_cond_t ?_ | refine w_cond_f ?_ | refine w_bind gV_u ?_ | refine w_bind gB_u ?_ | refine w_gld_u ?_)
  refine w_rlenB (s := v) (l := [(⟨now, who, place, code⟩ : Pt)]) h9 ?_
  with_reducible repeat (first | refine w_bind (pick_t _ _) ?_ | refine w_bind (pick_f _ _) ?_ | refine w_bind gV_tt ?_ | refine w_bind gV_ff ?_ | refine w_bind gV_tf ?_ | refine w_bind gV_ft ?_ | refine w_bind gB_tf ?_ | refine w_bind gB_ft ?_ | refine w_gE_tf ?_ | refine w_gE_ft ?_ | refine w_gE_tt ?_ | refine w_gE_ff ?_ | refine w_onK_tf ?_ | refine w_onK_ft ?_ | refine w_onK_tt ?_ | refine w_onK_ff ?_ | refine w_gld_tt ?_ | refine w_gld_ff ?_ | refine w_gld_tf ?_ | refine w_gld_ft ?_ | refine w_gldN_tt ?_ | refine w_gldN_ff ?_ | refine w_gldN_tf ?_ | refine w_gldN_ft ?_ | refine w_gB_tt ?_ | refine w_gB_ff ?_ | refine w_bind un_not ?_ | refine w_cond_t ?_ | refine w_cond_f ?_ | refine w_bind gV_u ?_ | refine w_bind gB_u ?_ | refine w_gld_u ?_)
  refine w_bind (eql_t rfl) ?_
  with_reducible repeat (first | refine w_bind (pick_t _ _) ?_ | refine w_bind (pick_f _ _) ?_ | refine w_bind gV_tt ?_ | refine w_bind gV_ff ?_ | refine w_bind gV_tf ?_ | refine w_bind gV_ft ?_ | refine w_bind gB_tf ?_ | refine w_bind gB_ft ?_ | refine w_gE_tf ?_ | refine w_gE_ft ?_ | refine w_gE_tt ?_ | refine w_gE_ff ?_ | refine w_onK_tf ?_ | refine w_onK_ft ?_ | refine w_onK_tt ?_ | refine w_onK_ff ?_ | refine w_gld_tt ?_ | refine w_gld_ff ?_ | refine w_gld_tf ?_ | refine w_gld_ft ?_ | refine w_gldN_tt ?_ | refine w_gldN_ff ?_ | refine w_gldN_tf ?_ | refine w_gldN_ft ?_ | refine w_gB_tt ?_ | refine w_gB_ff ?_ | refine w_bind un_not ?_ | refine w_cond_t ?_ | refine w_cond_f ?_ | refine w_bind gV_u ?_ | refine w_bind gB_u ?_ | refine w_gld_u ?_)
  refine w_tldN (s := v) (l := [(⟨now, who, place, code⟩ : Pt)]) (i := 0) h9 (by simp) ?_
  with_reducible repeat (first | refine w_bind (pick_t _ _) ?_ | refine w_bind (pick_f _ _) ?_ | refine w_bind gV_tt ?_ | refine w_bind gV_ff ?_ | refine w_bind gV_tf ?_ | refine w_bind gV_ft ?_ | refine w_bind gB_tf ?_ | refine w_bind gB_ft ?_ | refine w_gE_tf ?_ | refine w_gE_ft ?_ | refine w_gE_tt ?_ | refine w_gE_ff ?_ | refine w_onK_tf ?_ | refine w_onK_ft ?_ | refine w_onK_tt ?_ | refine w_onK_ff ?_ | refine w_gld_tt ?_ | refine w_gld_ff ?_ | refine w_gld_tf ?_ | refine w_gld_ft ?_ | refine w_gldN_tt ?_ | refine w_gldN_ff ?_ | refine w_gldN_tf ?_ | refine w_gldN_ft ?_ | refine w_gB_tt ?_ | refine w_gB_ff ?_ | refine w_bind un_not ?_ | refine w_cond_t ?_ | refine w_cond_f ?_ | refine w_bind gV_u ?_ | refine w_bind gB_u ?_ | refine w_gld_u ?_)
  refine w_LdN h9 ?_
  with_reducible repeat (first | refine w_bind (pick_t _ _) ?_ | refine w_bind (pick_f _ _) ?_ | refine w_bind gV_tt ?_ | refine w_bind gV_ff ?_ | refine w_bind gV_tf ?_ | refine w_bind gV_ft ?_ | refine w_bind gB_tf ?_ | refine w_bind gB_ft ?_ | refine w_gE_tf ?_ | refine w_gE_ft ?_ | refine w_gE_tt ?_ | refine w_gE_ff ?_ | refine w_onK_tf ?_ | refine w_onK_ft ?_ | refine w_onK_tt ?_ | refine w_onK_ff ?_ | refine w_gld_tt ?_ | refine w_gld_ff ?_ | refine w_gld_tf ?_ | refine w_gld_ft ?_ | refine w_gldN_tt ?_ | refine w_gldN_ff ?_ | refine w_gldN_tf ?_ | refine w_gldN_ft ?_ | refine w_gB_tt ?_ | refine w_gB_ff ?_ | refine w_bind un_not ?_ | refine w_cond_t ?_ | refine w_cond_f ?_ | refine w_bind gV_u ?_ | refine w_bind gB_u ?_ | refine w_gld_u ?_)
  refine w_bind (v := .agg (Pt.cells ⟨now, who, place, code⟩).toArray) rfl ?_
  with_reducible repeat (first | refine w_bind (pick_t _ _) ?_ | refine w_bind (pick_f _ _) ?_ | refine w_bind gV_tt ?_ | refine w_bind gV_ff ?_ | refine w_bind gV_tf ?_ | refine w_bind gV_ft ?_ | refine w_bind gB_tf ?_ | refine w_bind gB_ft ?_ | refine w_gE_tf ?_ | refine w_gE_ft ?_ | refine w_gE_tt ?_ | refine w_gE_ff ?_ | refine w_onK_tf ?_ | refine w_onK_ft ?_ | refine w_onK_tt ?_ | refine w_onK_ff ?_ | refine w_gld_tt ?_ | refine w_gld_ff ?_ | refine w_gld_tf ?_ | refine w_gld_ft ?_ | refine w_gldN_tt ?_ | refine w_gldN_ff ?_ | refine w_gldN_tf ?_ | refine w_gldN_ft ?_ | refine w_gB_tt ?_ | refine w_gB_ff ?_ | refine w_bind un_not ?_ | refine w_cond_t ?_ | refine w_cond_f ?_ | refine w_bind gV_u ?_ | refine w_bind gB_u ?_ | refine w_gld_u ?_)
  refine w_call h9 (help_point ⟨now, who, place, code⟩) fun _ H10 h10 => ?_
  with_reducible repeat (first | refine w_bind (pick_t _ _) ?_ | refine w_bind (pick_f _ _) ?_ | refine w_bind gV_tt ?_ | refine w_bind gV_ff ?_ | refine w_bind gV_tf ?_ | refine w_bind gV_ft ?_ | refine w_bind gB_tf ?_ | refine w_bind gB_ft ?_ | refine w_gE_tf ?_ | refine w_gE_ft ?_ | refine w_gE_tt ?_ | refine w_gE_ff ?_ | refine w_onK_tf ?_ | refine w_onK_ft ?_ | refine w_onK_tt ?_ | refine w_onK_ff ?_ | refine w_gld_tt ?_ | refine w_gld_ff ?_ | refine w_gld_tf ?_ | refine w_gld_ft ?_ | refine w_gldN_tt ?_ | refine w_gldN_ff ?_ | refine w_gldN_tf ?_ | refine w_gldN_ft ?_ | refine w_gB_tt ?_ | refine w_gB_ff ?_ | refine w_bind un_not ?_ | refine w_cond_t ?_ | refine w_cond_f ?_ | refine w_bind gV_u ?_ | refine w_bind gB_u ?_ | refine w_gld_u ?_)
  exact w_ret rfl
end
theorem enqRefused {H0 : AH} (hT : H0.get 0 = some (.cells true tabC)) (c : Cfg) (x : Cl) (who place now : Int) :
    ∃ H', FF n_l23_EnqRefused [.agg (Cfg.cells c).toArray, .agg (Cl.cells x).toArray, vi who, vi place, vi now] H0 = some (vb true, H') := by
  have key : wp (FF n_l23_EnqRefused [.agg (Cfg.cells c).toArray, .agg (Cl.cells x).toArray, vi who, vi place, vi now] H0) fun v' _ => v' = vb true := by
    haveI := args_tab hT
    refine wp_of (fun r => l23_EnqRefused_of _ _ _ _ _ H0) ?_
    refine w_newC (l := Cfg.cells c) (fix_holds H0) fun b1 H1 h1 => ?_
    refine w_newC (l := Cl.cells x) h1 fun b2 H2 h2 => ?_
    refine w_LdN h2 ?_
    refine w_call h2 (l23_made c 2 (by omega)) fun q H3 h3 => ?_
    obtain ⟨p, xx, c'⟩ := q
    dsimp only at h3 ⊢
    rw [sep_assoc, Holds.pu] at h3
    obtain ⟨hc, h3⟩ := h3
    refine w_bind (v := .agg [vp p, vp xx].toArray) rfl ?_
    refine w_bind (v := vb true) rfl ?_
    refine w_new h3 fun b3 H4 h4 => ?_
    refine w_St h4 rfl rfl fun H5 h5 => ?_
    refine w_awake23 h5 fun H6 h6 => ?_
    with_reducible repeat (first | refine w_bind (pick_t _ _) ?_ | refine w_bind (pick_f _ _) ?_ | refine w_bind gV_tt ?_ | refine w_bind gV_ff ?_ | refine w_bind gV_tf ?_ | refine w_bind gV_ft ?_ | refine w_bind gB_tf ?_ | refine w_bind gB_ft ?_ | refine w_gE_tf ?_ | refine w_gE_ft ?_ | refine w_gE_tt ?_ | refine w_gE_ff ?_ | refine w_onK_tf ?_ | refine w_onK_ft ?_ | refine w_onK_tt ?_ | refine w_onK_ff ?_ | refine w_gld_tt ?_ | refine w_gld_ff ?_ | refine w_gld_tf ?_ | refine w_gld_ft ?_ | refine w_gldN_tt ?_ | refine w_gldN_ff ?_ | refine w_gldN_tf ?_ | refine w_gldN_ft ?_ | refine w_gB_tt ?_ | refine w_gB_ff ?_ | refine w_bind un_not ?_ | refine w_cond_t ?_ | refine w_cond_f ?_ | refine w_bind gV_u ?_ | refine w_bind gB_u ?_ | refine w_gld_u ?_)
    refine w_st h6 end_f0 rfl rfl fun H7 h7 => ?_
    refine wp_eq (l23_EnqRefused_k0_eq _ _ _ _ _ _ _ H7) ?_
    have m := (made_c c' 2).1
    have fin : ∀ (y : Cl) (code : Int) {H : AH}, refusal y = some code → Holds (blk b3 (.cells false [vp p, vp xx]) * (blk b2 (.cells false (Cl.cells y)) * (partsP p (Sta.made c' 2) * (partsX xx (Sta.made c' 2) * (blk b1 (.cells false (Cfg.cells c)) * fix H0))))) H →
        wp (l23_EnqRefused_k1 (vi who) (vi place) (vi now) (vp b2) (vb false) (vp b3) (vi code) H) fun v' _ => v' = vb true := fun y code H hy h =>
      refused_tail y code who place now _ hy (by rw [m]; exact hc) (made_pts c' 2) h
    refine w_ld h7 end_f0 rfl ?_
    by_cases ha : 1 ≤ x.a
    · refine w_bind (geq_t ha) ?_
      with_reducible repeat (first | refine w_bind (pick_t _ _) ?_ | refine w_bind (pick_f _ _) ?_ | refine w_bind gV_tt ?_ | refine w_bind gV_ff ?_ | refine w_bind gV_tf ?_ | refine w_bind gV_ft ?_ | refine w_bind gB_tf ?_ | refine w_bind gB_ft ?_ | refine w_gE_tf ?_ | refine w_gE_ft ?_ | refine w_gE_tt ?_ | refine w_gE_ff ?_ | refine w_onK_tf ?_ | refine w_onK_ft ?_ | refine w_onK_tt ?_ | refine w_onK_ff ?_ | refine w_gld_tt ?_ | refine w_gld_ff ?_ | refine w_gld_tf ?_ | refine w_gld_ft ?_ | refine w_gldN_tt ?_ | refine w_gldN_ff ?_ | refine w_gldN_tf ?_ | refine w_gldN_ft ?_ | refine w_gB_tt ?_ | refine w_gB_ff ?_ | refine w_bind un_not ?_ | refine w_cond_t ?_ | refine w_cond_f ?_ | refine w_bind gV_u ?_ | refine w_bind gB_u ?_ | refine w_gld_u ?_)
      refine w_ld h7 end_f0 rfl ?_
      with_reducible repeat (first | refine w_bind (pick_t _ _) ?_ | refine w_bind (pick_f _ _) ?_ | refine w_bind gV_tt ?_ | refine w_bind gV_ff ?_ | refine w_bind gV_tf ?_ | refine w_bind gV_ft ?_ | refine w_bind gB_tf ?_ | refine w_bind gB_ft ?_ | refine w_gE_tf ?_ | refine w_gE_ft ?_ | refine w_gE_tt ?_ | refine w_gE_ff ?_ | refine w_onK_tf ?_ | refine w_onK_ft ?_ | refine w_onK_tt ?_ | refine w_onK_ff ?_ | refine w_gld_tt ?_ | refine w_gld_ff ?_ | refine w_gld_tf ?_ | refine w_gld_ft ?_ | refine w_gldN_tt ?_ | refine w_gldN_ff ?_ | refine w_gldN_tf ?_ | refine w_gldN_ft ?_ | refine w_gB_tt ?_ | refine w_gB_ff ?_ | refine w_bind un_not ?_ | refine w_cond_t ?_ | refine w_cond_f ?_ | refine w_bind gV_u ?_ | refine w_bind gB_u ?_ | refine w_gld_u ?_)
      by_cases ha2 : x.a ≤ 65536
      · refine w_bind (leq_t ha2) ?_
        with_reducible repeat (first | refine w_bind (pick_t _ _) ?_ | refine w_bind (pick_f _ _) ?_ | refine w_bind gV_tt ?_ | refine w_bind gV_ff ?_ | refine w_bind gV_tf ?_ | refine w_bind gV_ft ?_ | refine w_bind gB_tf ?_ | refine w_bind gB_ft ?_ | refine w_gE_tf ?_ | refine w_gE_ft ?_ | refine w_gE_tt ?_ | refine w_gE_ff ?_ | refine w_onK_tf ?_ | refine w_onK_ft ?_ | refine w_onK_tt ?_ | refine w_onK_ff ?_ | refine w_gld_tt ?_ | refine w_gld_ff ?_ | refine w_gld_tf ?_ | refine w_gld_ft ?_ | refine w_gldN_tt ?_ | refine w_gldN_ff ?_ | refine w_gldN_tf ?_ | refine w_gldN_ft ?_ | refine w_gB_tt ?_ | refine w_gB_ff ?_ | refine w_bind un_not ?_ | refine w_cond_t ?_ | refine w_cond_f ?_ | refine w_bind gV_u ?_ | refine w_bind gB_u ?_ | refine w_gld_u ?_)
        refine w_ld h7 end_f0 rfl ?_
        by_cases hf : 0 ≤ x.flow
        · refine w_bind (geq_t hf) ?_
          with_reducible repeat (first | refine w_bind (pick_t _ _) ?_ | refine w_bind (pick_f _ _) ?_ | refine w_bind gV_tt ?_ | refine w_bind gV_ff ?_ | refine w_bind gV_tf ?_ | refine w_bind gV_ft ?_ | refine w_bind gB_tf ?_ | refine w_bind gB_ft ?_ | refine w_gE_tf ?_ | refine w_gE_ft ?_ | refine w_gE_tt ?_ | refine w_gE_ff ?_ | refine w_onK_tf ?_ | refine w_onK_ft ?_ | refine w_onK_tt ?_ | refine w_onK_ff ?_ | refine w_gld_tt ?_ | refine w_gld_ff ?_ | refine w_gld_tf ?_ | refine w_gld_ft ?_ | refine w_gldN_tt ?_ | refine w_gldN_ff ?_ | refine w_gldN_tf ?_ | refine w_gldN_ft ?_ | refine w_gB_tt ?_ | refine w_gB_ff ?_ | refine w_bind un_not ?_ | refine w_cond_t ?_ | refine w_cond_f ?_ | refine w_bind gV_u ?_ | refine w_bind gB_u ?_ | refine w_gld_u ?_)
          refine w_ld h7 end_f0 rfl ?_
          with_reducible repeat (first | refine w_bind (pick_t _ _) ?_ | refine w_bind (pick_f _ _) ?_ | refine w_bind gV_tt ?_ | refine w_bind gV_ff ?_ | refine w_bind gV_tf ?_ | refine w_bind gV_ft ?_ | refine w_bind gB_tf ?_ | refine w_bind gB_ft ?_ | refine w_gE_tf ?_ | refine w_gE_ft ?_ | refine w_gE_tt ?_ | refine w_gE_ff ?_ | refine w_onK_tf ?_ | refine w_onK_ft ?_ | refine w_onK_tt ?_ | refine w_onK_ff ?_ | refine w_gld_tt ?_ | refine w_gld_ff ?_ | refine w_gld_tf ?_ | refine w_gld_ft ?_ | refine w_gldN_tt ?_ | refine w_gldN_ff ?_ | refine w_gldN_tf ?_ | refine w_gldN_ft ?_ | refine w_gB_tt ?_ | refine w_gB_ff ?_ | refine w_bind un_not ?_ | refine w_cond_t ?_ | refine w_cond_f ?_ | refine w_bind gV_u ?_ | refine w_bind gB_u ?_ | refine w_gld_u ?_)
          by_cases hf2 : x.flow ≤ 1048576
          · refine w_bind (leq_t hf2) ?_
            with_reducible repeat (first | refine w_bind (pick_t _ _) ?_ | refine w_bind (pick_f _ _) ?_ | refine w_bind gV_tt ?_ | refine w_bind gV_ff ?_ | refine w_bind gV_tf ?_ | refine w_bind gV_ft ?_ | refine w_bind gB_tf ?_ | refine w_bind gB_ft ?_ | refine w_gE_tf ?_ | refine w_gE_ft ?_ | refine w_gE_tt ?_ | refine w_gE_ff ?_ | refine w_onK_tf ?_ | refine w_onK_ft ?_ | refine w_onK_tt ?_ | refine w_onK_ff ?_ | refine w_gld_tt ?_ | refine w_gld_ff ?_ | refine w_gld_tf ?_ | refine w_gld_ft ?_ | refine w_gldN_tt ?_ | refine w_gldN_ff ?_ | refine w_gldN_tf ?_ | refine w_gldN_ft ?_ | refine w_gB_tt ?_ | refine w_gB_ff ?_ | refine w_bind un_not ?_ | refine w_cond_t ?_ | refine w_cond_f ?_ | refine w_bind gV_u ?_ | refine w_bind gB_u ?_ | refine w_gld_u ?_)
            refine w_ld h7 end_f0 rfl ?_
            refine w_bind (bin_sub_i (by omega) (by omega)) ?_
            refine w_st h7 end_f0 rfl rfl fun H8 h8 => ?_
            refine fin ⟨3, -1 - x.flow, x.a, x.b⟩ 5 ?_ h8.to
            unfold refusal
            dsimp only
            rw [if_neg (by omega), if_pos (by omega)]
          · refine w_bind (leq_f hf2) ?_
            with_reducible repeat (first | refine w_bind (pick_t _ _) ?_ | refine w_bind (pick_f _ _) ?_ | refine w_bind gV_tt ?_ | refine w_bind gV_ff ?_ | refine w_bind gV_tf ?_ | refine w_bind gV_ft ?_ | refine w_bind gB_tf ?_ | refine w_bind gB_ft ?_ | refine w_gE_tf ?_ | refine w_gE_ft ?_ | refine w_gE_tt ?_ | refine w_gE_ff ?_ | refine w_onK_tf ?_ | refine w_onK_ft ?_ | refine w_onK_tt ?_ | refine w_onK_ff ?_ | refine w_gld_tt ?_ | refine w_gld_ff ?_ | refine w_gld_tf ?_ | refine w_gld_ft ?_ | refine w_gldN_tt ?_ | refine w_gldN_ff ?_ | refine w_gldN_tf ?_ | refine w_gldN_ft ?_ | refine w_gB_tt ?_ | refine w_gB_ff ?_ | refine w_bind un_not ?_ | refine w_cond_t ?_ | refine w_cond_f ?_ | refine w_bind gV_u ?_ | refine w_bind gB_u ?_ | refine w_gld_u ?_)
            refine fin ⟨3, x.flow, x.a, x.b⟩ 5 ?_ h7.to
            unfold refusal
            dsimp only
            rw [if_neg (by omega), if_pos (by omega)]
        · refine w_bind (geq_f hf) ?_
          with_reducible repeat (first | refine w_bind (pick_t _ _) ?_ | refine w_bind (pick_f _ _) ?_ | refine w_bind gV_tt ?_ | refine w_bind gV_ff ?_ | refine w_bind gV_tf ?_ | refine w_bind gV_ft ?_ | refine w_bind gB_tf ?_ | refine w_bind gB_ft ?_ | refine w_gE_tf ?_ | refine w_gE_ft ?_ | refine w_gE_tt ?_ | refine w_gE_ff ?_ | refine w_onK_tf ?_ | refine w_onK_ft ?_ | refine w_onK_tt ?_ | refine w_onK_ff ?_ | refine w_gld_tt ?_ | refine w_gld_ff ?_ | refine w_gld_tf ?_ | refine w_gld_ft ?_ | refine w_gldN_tt ?_ | refine w_gldN_ff ?_ | refine w_gldN_tf ?_ | refine w_gldN_ft ?_ | refine w_gB_tt ?_ | refine w_gB_ff ?_ | refine w_bind un_not ?_ | refine w_cond_t ?_ | refine w_cond_f ?_ | refine w_bind gV_u ?_ | refine w_bind gB_u ?_ | refine w_gld_u ?_)
          refine fin ⟨3, x.flow, x.a, x.b⟩ 5 ?_ h7.to
          unfold refusal
          dsimp only
          rw [if_neg (by omega), if_pos (by omega)]
      · refine w_bind (leq_f ha2) ?_
        with_reducible repeat (first | refine w_bind (pick_t _ _) ?_ | refine w_bind (pick_f _ _) ?_ | refine w_bind gV_tt ?_ | refine w_bind gV_ff ?_ | refine w_bind gV_tf ?_ | refine w_bind gV_ft ?_ | refine w_bind gB_tf ?_ | refine w_bind gB_ft ?_ | refine w_gE_tf ?_ | refine w_gE_ft ?_ | refine w_gE_tt ?_ | refine w_gE_ff ?_ | refine w_onK_tf ?_ | refine w_onK_ft ?_ | refine w_onK_tt ?_ | refine w_onK_ff ?_ | refine w_gld_tt ?_ | refine w_gld_ff ?_ | refine w_gld_tf ?_ | refine w_gld_ft ?_ | refine w_gldN_tt ?_ | refine w_gldN_ff ?_ | refine w_gldN_tf ?_ | refine w_gldN_ft ?_ | refine w_gB_tt ?_ | refine w_gB_ff ?_ | refine w_bind un_not ?_ | refine w_cond_t ?_ | refine w_cond_f ?_ | refine w_bind gV_u ?_ | refine w_bind gB_u ?_ | refine w_gld_u ?_)
        refine fin ⟨3, x.flow, x.a, x.b⟩ 3 ?_ h7.to
        unfold refusal
        dsimp only
        rw [if_pos (by omega)]
    · refine w_bind (geq_f ha) ?_
      with_reducible repeat (first | refine w_bind (pick_t _ _) ?_ | refine w_bind (pick_f _ _) ?_ | refine w_bind gV_tt ?_ | refine w_bind gV_ff ?_ | refine w_bind gV_tf ?_ | refine w_bind gV_ft ?_ | refine w_bind gB_tf ?_ | refine w_bind gB_ft ?_ | refine w_gE_tf ?_ | refine w_gE_ft ?_ | refine w_gE_tt ?_ | refine w_gE_ff ?_ | refine w_onK_tf ?_ | refine w_onK_ft ?_ | refine w_onK_tt ?_ | refine w_onK_ff ?_ | refine w_gld_tt ?_ | refine w_gld_ff ?_ | refine w_gld_tf ?_ | refine w_gld_ft ?_ | refine w_gldN_tt ?_ | refine w_gldN_ff ?_ | refine w_gldN_tf ?_ | refine w_gldN_ft ?_ | refine w_gB_tt ?_ | refine w_gB_ff ?_ | refine w_bind un_not ?_ | refine w_cond_t ?_ | refine w_cond_f ?_ | refine w_bind gV_u ?_ | refine w_bind gB_u ?_ | refine w_gld_u ?_)
      refine fin ⟨3, x.flow, x.a, x.b⟩ 3 ?_ h7.to
      unfold refusal
      dsimp only
      rw [if_pos (by omega)]
  obtain ⟨v', H', e, rfl⟩ := key
  exact ⟨H', e⟩
theorem enqRefused_args {H0 : AH} (hT : H0.get 0 = some (.cells true tabC)) {xc : CfgTy.I} {cc : List Value} (hc : Abs H0 CfgTy xc cc) {x : ClTy.I} {cx : List Value} (hx : Abs H0 ClTy x cx) (who place now : Int) :
    ∃ H', FF n_l23_EnqRefused [.agg cc.toArray, .agg cx.toArray, vi who, vi place, vi now] H0 = some (vb true, H') := by
  obtain ⟨c, rfl⟩ := cfg_abs hc
  obtain rfl := cl_abs hx
  exact enqRefused hT c (toCl x) who place now
end Go.Proofs.YtodpbobjmkhcfaaGreatDoor.Gst
