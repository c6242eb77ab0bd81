/- All that workers share, of the program: one pure state, what stands in memory for it, what is done to it. -/
import Derived.Test.YtodpbobjmkhcfaaGreatDoorJc
namespace Go.Proofs.YtodpbobjmkhcfaaGreatDoor.Gst
open Go Go.RowKit
set_option linter.unusedSimpArgs false
set_option linter.unusedVariables false
set_option maxHeartbeats 1000000
set_option synthInstance.maxSize 2000
set_option synthInstance.maxHeartbeats 400000

structure Pk where
  flow : Int
  len : Int
  mark : Int
abbrev Pk.cells (x : Pk) : List Value := [vi x.flow, vi x.len, vi x.mark]
instance : Enc Pk.cells 3 := ⟨fun _ => rfl, fun _ => rfl, by omega⟩
structure Ob where
  flow : Int
  most : Int
  r : Nat
/-- A point that tells a code alone. -/
structure Pt where
  step : Int
  who : Int
  place : Int
  e : Int
abbrev retC (e : Int) : List Value := [vi e, .slice none 0 0, vi 0, vw 0]
abbrev Pt.cells (x : Pt) : List Value := [vi x.step, vi x.who, vi x.place, vi x.e, .slice none 0 0, vi 0, vw 0]
instance : Enc Pt.cells 7 := ⟨fun _ => rfl, fun _ => rfl, by omega⟩
/-- What both sides have. -/
structure Sta where
  c : Cfg
  μ : Mu
  obs : List (Ob × List Pk)
  nx : Int → Option Nat
  places : Int → Option Int
  pts : List Pt
/-- How many cells a ring has. -/
def mostOf (n : Int) : Nat := (min (max n 1) 8).toNat
theorem mostOf_in (n : Int) : 1 ≤ mostOf n ∧ mostOf n ≤ 8 ∧ (mostOf n : Int) = min (max n 1) 8 := by unfold mostOf; omega
abbrev pk0 : Pk := ⟨0, 0, 0⟩

abbrev ekI (k : Int) : Value := vi k
instance : KeyE .int ekI where
  eq a b := by
    simp only [keyEq, ekI, if_true]
    congr 1
  ok a := rfl
theorem vi_inj {a b : Int} (h : vi a = vi b) : a = b := by simpa using h

/-! ### What stands for it, of the program -/
def ringP (m i rp : Nat) (cs : List Pk) : SP := ex fun cv : Value => blk rp (.cells false [vp m, vi i, cv]) * ts 3 Pk.cells cv cs
def ringsP (m : Nat) : Nat → List (Nat × List Pk) → SP
  | _, [] => emp
  | i, p :: ps => ringP m i p.1 p.2 * ringsP m (i + 1) ps
theorem ringsP_snoc (m : Nat) : ∀ (ps : List (Nat × List Pk)) (i : Nat) (q : Nat × List Pk), ringsP m i (ps ++ [q]) = ringsP m i ps * ringP m (i + ps.length) q.1 q.2 := by
  intro ps
  induction ps with
  | nil => intro i q; show ringP m i q.1 q.2 * emp = emp * ringP m (i + 0) q.1 q.2; rw [sep_emp, emp_sep]; rfl
  | cons p ps ih =>
    intro i q
    show ringP m i p.1 p.2 * ringsP m (i + 1) (ps ++ [q]) = ringP m i p.1 p.2 * ringsP m (i + 1) ps * _
    rw [ih, sep_assoc, List.length_cons, show i + 1 + ps.length = i + (ps.length + 1) from by omega]
abbrev encO (x : Ob × Nat) : List Value := [vi x.1.flow, vi x.1.most, vu x.1.r, vp x.2]
instance : Enc encO 4 := ⟨fun _ => rfl, fun _ => rfl, by omega⟩
structure PIds where
  m : Nat
  ib : Nat
  tb : Nat
  po : Nat
  co : Nat
  ov : Value
  pm : Nat
  pv : Value
  nm : Nat
  rp : List Nat
def inbP (ib m nm : Nat) (c : Cfg) (nx : Int → Option Nat) : SP :=
  blk ib (.cells false [vp m, vi c.sh, .map (some nm), .func (.func n_inbox_site_at) #[vi 9] #[], .func (.func n_inbox_site_at) #[vi 14] #[]]) * mpS ekI nm (fun k => (nx k).map fun n => vu n)
def partsB (p : Nat) (g : PIds) (σ : Sta) : SP :=
  blk p (.cells false [vp g.m, vp g.ib, vp g.tb, vp g.po, vp g.co, vi σ.c.sh, vi σ.c.sl, vi σ.c.wk, vi σ.c.wd, vu σ.c.un, g.ov, .map (some g.pm), g.pv]) *
  (memP g.m σ.μ * (inbP g.ib g.m g.nm σ.c σ.nx * (tab g.tb g.m σ.c.sh.toNat σ.c.sl.toNat * (ts 4 encO g.ov ((σ.obs.map fun x => x.1).zip g.rp) * (ringsP g.m 0 (g.rp.zip (σ.obs.map fun x => x.2)) *
  (mpS ekI g.pm (fun k => (σ.places k).map fun n => vi n) * ts 7 Pt.cells g.pv σ.pts))))))
def partsP (p : Nat) (σ : Sta) : SP := ex fun g : PIds => pu (g.rp.length = σ.obs.length) * partsB p g σ
theorem partsP_open {p : Nat} {σ : Sta} {R : SP} {H : AH} (h : Holds (partsP p σ * R) H) : ∃ g : PIds, g.rp.length = σ.obs.length ∧ Holds (partsB p g σ * R) H := by
  obtain ⟨g, h1⟩ := Holds.ex.1 h
  rw [sep_assoc, Holds.pu] at h1
  exact ⟨g, h1⟩
theorem partsP_close {p : Nat} {σ : Sta} {R : SP} {H : AH} (g : PIds) (hl : g.rp.length = σ.obs.length) (h : Holds (partsB p g σ * R) H) : Holds (partsP p σ * R) H :=
  Holds.ex.2 ⟨g, by rw [sep_assoc]; exact Holds.pu.2 ⟨hl, h⟩⟩

/-! ### New parts -/
abbrev Sta.new (c : Cfg) : Sta := ⟨c, ⟨fun _ => 0, [], 0⟩, [], fun _ => none, fun _ => none, []⟩
theorem mem_new' : Sp n_mem_New [] emp (fun b : Nat => vp b) (fun b => memP b ⟨fun _ => 0, [], 0⟩) := by
  refine sp_of fun R H h => ?_
  refine wp_of (fun r => mem_New_of H) ?_
  refine w_map h fun mb H2 h2 => ?_
  refine w_S ?_
  refine w_newC h2 fun b H3 h3 => ?_
  refine w_ret ⟨b, rfl, Holds.ex.2 ⟨(mb, .slice none 0 0, [], [], 0), ?_⟩⟩
  rw [sep_assoc, Holds.pu]
  refine ⟨⟨.nil, fun _ => rfl, Nat.le_refl _⟩, ?_⟩
  have := sl_nil' 5 h3
  show Holds (blk b (.cells false [.map (some mb), .slice none 0 0]) * (blk mb (.map [] 0) * sl 5 (.slice none 0 0) 0 []) * R) H3
  exact this.to
theorem inbox_new' (m : Nat) (c : Cfg) (hc : rightB c = true) : Sp n_inbox_New [vp m, vi c.sh] emp (fun b : Nat => vp b) (fun b => ex fun nm : Nat => inbP b m nm c fun _ => none) := by
  have hc := rightB_iff.1 hc
  refine sp_of fun R H h => ?_
  refine wp_of (fun r => inbox_New_of _ _ H) ?_
  refine w_bind (max_i) ?_
  refine w_bind (min_i) ?_
  rw [show min (max c.sh 1) 4 = c.sh from by omega]
  refine w_map h fun mb H2 h2 => ?_
  refine w_S ?_
  refine w_newC h2 fun b H3 h3 => ?_
  refine w_ret ⟨b, rfl, Holds.ex.2 ⟨mb, ?_⟩⟩
  unfold inbP
  have h4 : Holds (blk mb (.map [] 0) * (blk b (.cells false [vp m, vi c.sh, .map (some mb), .func (.func n_inbox_site_at) #[vi 9] #[], .func (.func n_inbox_site_at) #[vi 14] #[]]) * (emp * R))) H3 := h3.to
  have h5 := mpS_new ekI h4
  show Holds (blk b (.cells false [vp m, vi c.sh, .map (some mb), .func (.func n_inbox_site_at) #[vi 9] #[], .func (.func n_inbox_site_at) #[vi 14] #[]]) * mpS ekI mb (fun _ => none) * R) H3
  exact h5.to
theorem table_new' (m : Nat) (c : Cfg) (hc : rightB c = true) : Sp n_table_New [vp m, vi c.sh, vi c.sl] emp (fun b : Nat => vp b) (fun b => tab b m c.sh.toNat c.sl.toNat) := by
  have hc := rightB_iff.1 hc
  refine sp_of fun R H h => ?_
  refine wp_of (fun r => table_New_of _ _ _ H) ?_
  refine w_bind (max_i) ?_
  refine w_bind (min_i) ?_
  refine w_bind (max_i) ?_
  refine w_bind (min_i) ?_
  rw [show min (max c.sh 1) 4 = ((c.sh.toNat : Nat) : Int) from by omega, show min (max c.sl 1) 4 = ((c.sl.toNat : Nat) : Int) from by omega]
  refine w_S ?_
  refine w_newC h fun b H3 h3 => ?_
  exact w_ret ⟨b, rfl, by unfold tab; exact h3.to⟩
theorem parts_new' (c : Cfg) (hc : rightB c = true) : Sp n_parts_New [.agg (Cfg.cells c).toArray] emp (fun b : Nat => .tuple #[vp b, vi 0]) (fun b => partsP b (Sta.new c)) := by
  refine sp_of fun R H h => ?_
  refine wp_of (fun r => parts_New_of _ H) ?_
  refine w_newC h fun cb H1 h1 => ?_
  refine w_LdN h1 ?_
  refine w_call h1 (model_right c) fun _ H2 h2 => ?_
  rw [hc]
  with_reducible repeat (first | refine w_bind (pick_t _ _) ?_ | refine w_bind (pick_f _ _) ?_ | refine w_bind gV_tt ?_ | refine w_bind gV_ff ?_ | refine w_bind gV_tf ?_ | refine w_bind gV_ft ?_ | refine w_bind gB_tf ?_ | refine w_bind gB_ft ?_ | refine w_gE_tf ?_ | refine w_gE_ft ?_ | refine w_gE_tt ?_ | refine w_gE_ff ?_ | refine w_onK_tf ?_ | refine w_onK_ft ?_ | refine w_onK_tt ?_ | refine w_onK_ff ?_ | refine w_gld_tt ?_ | refine w_gld_ff ?_ | refine w_gld_tf ?_ | refine w_gld_ft ?_ | refine w_gldN_tt ?_ | refine w_gldN_ff ?_ | refine w_gldN_tf ?_ | refine w_gldN_ft ?_ | refine w_gB_tt ?_ | refine w_gB_ff ?_ | refine w_bind un_not ?_ | refine w_cond_t ?_ | refine w_cond_f ?_ | refine w_bind gV_u ?_ | refine w_bind gB_u ?_ | refine w_gld_u ?_)
  rw [Bool.not_true]
  with_reducible repeat (first | refine w_bind (pick_t _ _) ?_ | refine w_bind (pick_f _ _) ?_ | refine w_bind gV_tt ?_ | refine w_bind gV_ff ?_ | refine w_bind gV_tf ?_ | refine w_bind gV_ft ?_ | refine w_bind gB_tf ?_ | refine w_bind gB_ft ?_ | refine w_gE_tf ?_ | refine w_gE_ft ?_ | refine w_gE_tt ?_ | refine w_gE_ff ?_ | refine w_onK_tf ?_ | refine w_onK_ft ?_ | refine w_onK_tt ?_ | refine w_onK_ff ?_ | refine w_gld_tt ?_ | refine w_gld_ff ?_ | refine w_gld_tf ?_ | refine w_gld_ft ?_ | refine w_gldN_tt ?_ | refine w_gldN_ff ?_ | refine w_gldN_tf ?_ | refine w_gldN_ft ?_ | refine w_gB_tt ?_ | refine w_gB_ff ?_ | refine w_bind un_not ?_ | refine w_cond_t ?_ | refine w_cond_f ?_ | refine w_bind gV_u ?_ | refine w_bind gB_u ?_ | refine w_gld_u ?_)
  refine w_call h2 mem_new' fun m H3 h3 => ?_
  refine w_ld h3 end_f0 rfl ?_
  refine w_call h3 (inbox_new' m c hc) fun ib H4 h4 => ?_
  obtain ⟨nm, h4b⟩ := Holds.ex.1 h4
  refine w_ad end_f0 ?_
  refine w_Ld1 h4b rfl ?_
  refine w_eq1 h3 h4b rfl ?_
  refine w_ad end_f0 ?_
  refine w_Ld1 h4b rfl ?_
  refine w_eq1 h3 h4b rfl ?_
  refine w_call h4b (table_new' m c hc) fun tb H5 h5 => ?_
  refine w_ad end_f0 ?_
  refine w_Ld1 h5 rfl ?_
  refine w_eq1 h3 h5 rfl ?_
  refine w_eq1 h4b h5 rfl ?_
  refine w_call h5 (post_new m c.wk) fun pb H6 h6 => ?_
  refine w_LdN h6 ?_
  refine w_eqN h3 h6 rfl ?_
  refine w_eqN h4b h6 rfl ?_
  refine w_eqN h5 h6 rfl ?_
  refine w_call h6 (core_new c) fun kb H7 h7 => ?_
  refine w_LdN h7 ?_
  refine w_eqN h3 h7 rfl ?_
  refine w_eqN h4b h7 rfl ?_
  refine w_eqN h5 h7 rfl ?_
  refine w_eqN h6 h7 rfl ?_
  refine w_map h7 fun mb H8 h8 => ?_
  refine w_S ?_
  refine w_newC h8 fun b H9 h9 => ?_
  refine w_ret ⟨b, rfl, ?_⟩
  refine partsP_close ⟨m, ib, tb, pb, kb, .slice none 0 0, mb, .slice none 0 0, nm, []⟩ rfl ?_
  have h10 := ts_nil 4 encO (ts_nil 7 Pt.cells h9)
  have h11 : Holds (blk mb (.map [] 0) * (ts 4 encO (.slice none 0 0) [] * (ts 7 Pt.cells (.slice none 0 0) [] * (blk b (.cells false [vp m, vp ib, vp tb, vp pb, vp kb, vi c.sh, vi c.sl, vi c.wk, vi c.wd, vu c.un, .slice none 0 0, .map (some mb), .slice none 0 0]) * (memP m ⟨fun _ => 0, [], 0⟩ * (inbP ib m nm c (fun _ => none) * (tab tb m c.sh.toNat c.sl.toNat * (emp * R)))))))) H9 := h10.to
  have h12 := mpS_new ekI h11
  show Holds (blk b (.cells false [vp m, vp ib, vp tb, vp pb, vp kb, vi c.sh, vi c.sl, vi c.wk, vi c.wd, vu c.un, .slice none 0 0, .map (some mb), .slice none 0 0]) * (memP m ⟨fun _ => 0, [], 0⟩ * (inbP ib m nm c (fun _ => none) * (tab tb m c.sh.toNat c.sl.toNat * (ts 4 encO (.slice none 0 0) [] * (emp * (mpS ekI mb (fun _ => none) * ts 7 Pt.cells (.slice none 0 0) [])))))) * R) H9
  exact h12.to

/-! ### An object; where a call begins; a point -/
section
variable (p : Nat) (σ : Sta)
theorem ring_new (m i : Nat) (most : Int) : Sp n_ring_New [vp m, vi i, vi most] emp (fun b : Nat => vp b) (fun b => ringP m i b (List.replicate (mostOf most) pk0)) := by
  obtain ⟨q1, q2, q3⟩ := mostOf_in most
  refine sp_of fun R H h => ?_
  refine wp_of (fun r => ring_New_of _ _ _ H) ?_
  refine w_bind (max_i) ?_
  refine w_bind (min_i) ?_
  rw [← q3]
  refine w_make (enc := Pk.cells) pk0 h rfl (by unfold room; omega) (by omega) fun cb H1 h1 => ?_
  refine w_S ?_
  refine w_newC h1 fun b H2 h2 => ?_
  refine w_ret ⟨b, rfl, ?_⟩
  unfold ringP
  exact Holds.ex.2 ⟨vs cb (mostOf most) 3, h2.to⟩
abbrev Sta.make (σ : Sta) (who : Int) (o : Ob) : Sta := { σ with μ := σ.μ.acc who 6 (13, σ.obs.length, 0), obs := σ.obs ++ [(o, List.replicate (mostOf o.most) pk0)] }
theorem parts_make (who : Int) (o : Ob) (hE : σ.μ.N < 1099511627000) (ho : σ.obs.length < 1000000) : Sp n_parts_Parts_Make [vp p, vi who, .agg (#[vi o.flow, vi o.most, vu o.r] : Array Value)] (partsP p σ) (fun _ : Unit => vi σ.obs.length) (fun _ => partsP p (σ.make who o)) := by
  refine sp_of fun R H h => ?_
  obtain ⟨g, hg, h0⟩ := partsP_open h
  have hz : ((σ.obs.map fun x => x.1).zip g.rp).length = σ.obs.length := by simp [hg]
  unfold partsB at h0
  refine wp_of (fun r => parts_Parts_Make_of _ _ _ H) ?_
  refine w_newC (l := [vi o.flow, vi o.most, vu o.r]) h0 fun ob H1 h1 => ?_
  refine w_ld h1 end_nf rfl ?_
  refine w_tlen (s := g.ov) h1 ?_
  rw [hz]
  refine w_ld h1 end_nf rfl ?_
  refine w_S ?_
  refine w_call h1 ((mem_write g.m σ.μ who (13, σ.obs.length, 0) (by omega)).imp fun _ R H h => memP_le (N' := σ.μ.N + 2) (by simp) h) fun _ H2 h2 => ?_
  refine w_ad end_nf ?_
  refine w_Ld1 h2 rfl ?_
  refine w_LdN h2 ?_
  refine w_ld h2 end_nf rfl ?_
  refine w_ld h2 end_f0 rfl ?_
  refine w_call h2 (ring_new g.m σ.obs.length o.most) fun rb H3 h3 => ?_
  refine w_eq1 h3 h2 rfl ?_
  refine w_eqN h3 h2 rfl ?_
  refine w_S ?_
  refine w_R h3 fun b0 H4 h4 => ?_
  refine w_tapp ((o, rb) : Ob × Nat) h4 rfl ?_ (by omega) fun a cc H5 h5 => ?_
  · unfold room; omega
  refine w_st h5 end_nf rfl rfl fun H6 h6 => ?_
  refine w_ret ⟨(), rfl, ?_⟩
  refine partsP_close { g with ov := .slice a (((σ.obs.map fun x => x.1).zip g.rp).length + 1) cc, rp := g.rp ++ [rb] } (by simp [Sta.make, hg]) ?_
  unfold partsB Sta.make
  dsimp only
  have e1 : ((σ.obs ++ [(o, List.replicate (mostOf o.most) pk0)]).map fun x => x.1).zip (g.rp ++ [rb]) = ((σ.obs.map fun x => x.1).zip g.rp) ++ [(o, rb)] := by
    rw [List.map_append, List.zip_append (by simp [hg])]
    rfl
  have e2 : (g.rp ++ [rb]).zip ((σ.obs ++ [(o, List.replicate (mostOf o.most) pk0)]).map fun x => x.2) = (g.rp.zip (σ.obs.map fun x => x.2)) ++ [(rb, List.replicate (mostOf o.most) pk0)] := by
    rw [List.map_append, List.zip_append (by simp [hg])]
    rfl
  have e3 : 0 + (g.rp.zip (σ.obs.map fun x => x.2)).length = σ.obs.length := by simp [hg]
  rw [e1, e2, ringsP_snoc, e3]
  exact h6.to
theorem parts_begin (who place : Int) : Sp n_parts_Parts_Begin [vp p, vi who, vi place] (partsP p σ) (fun _ : Unit => .tuple #[]) (fun _ => partsP p { σ with places := fun k => if k = who then some place else σ.places k }) := by
  refine sp_of fun R H h => ?_
  obtain ⟨g, hg, h0⟩ := partsP_open h
  unfold partsB at h0
  refine wp_of (fun r => parts_Parts_Begin_of _ _ _ H) ?_
  refine w_ld h0 end_nf rfl ?_
  refine w_mset (ek := ekI) who (vi place) h0 fun H1 h1 => ?_
  refine w_ret ⟨(), rfl, ?_⟩
  refine partsP_close g hg ?_
  unfold partsB
  dsimp only
  have e : (fun k => ((if k = who then some place else σ.places k) : Option Int).map fun n => vi n) = fun x => if x = who then some (vi place) else (σ.places x).map fun n => vi n := by
    funext k
    split <;> rfl
  rw [e]
  exact h1.to
theorem slices_clone_nil : Sp n_slices_Cloneapi_Packetapi_Packet [.slice none 0 0] emp (fun _ : Unit => .slice none 0 0) (fun _ => emp) := by
  refine sp_of fun R H h => ?_
  refine wp_of (fun r => slices_Cloneapi_Packetapi_Packet_of _ H) ?_
  refine w_bind (v := vb true) rfl ?_
  with_reducible repeat (first | refine w_bind (pick_t _ _) ?_ | refine w_bind (pick_f _ _) ?_ | refine w_bind gV_tt ?_ | refine w_bind gV_ff ?_ | refine w_bind gV_tf ?_ | refine w_bind gV_ft ?_ | refine w_bind gB_tf ?_ | refine w_bind gB_ft ?_ | refine w_gE_tf ?_ | refine w_gE_ft ?_ | refine w_gE_tt ?_ | refine w_gE_ff ?_ | refine w_onK_tf ?_ | refine w_onK_ft ?_ | refine w_onK_tt ?_ | refine w_onK_ff ?_ | refine w_gld_tt ?_ | refine w_gld_ff ?_ | refine w_gld_tf ?_ | refine w_gld_ft ?_ | refine w_gldN_tt ?_ | refine w_gldN_ff ?_ | refine w_gldN_tf ?_ | refine w_gldN_ft ?_ | refine w_gB_tt ?_ | refine w_gB_ff ?_ | refine w_bind un_not ?_ | refine w_cond_t ?_ | refine w_cond_f ?_ | refine w_bind gV_u ?_ | refine w_bind gB_u ?_ | refine w_gld_u ?_)
  exact w_ret ⟨(), rfl, Holds.to (by assumption)⟩
theorem parts_own_law (e : Int) : Sp n_parts_own [.agg (retC e).toArray] emp (fun _ : Unit => .agg (retC e).toArray) (fun _ => emp) := by
  refine sp_of fun R H h => ?_
  refine wp_of (fun r => parts_own_of _ H) ?_
  refine w_newC h fun b1 H1 h1 => ?_
  refine w_new h1 fun b2 H2 h2 => ?_
  refine w_ld h2 end_f0 rfl ?_
  refine w_call h2 slices_clone_nil fun _ H3 h3 => ?_
  refine w_st h3 end_f0 rfl rfl fun H4 h4 => ?_
  refine w_LdN h4 ?_
  refine w_St h4 rfl rfl fun H5 h5 => ?_
  refine w_LdN h5 ?_
  exact w_ret ⟨(), rfl, h5.to⟩
abbrev Sta.note (σ : Sta) (step who e : Int) : Sta := { σ with pts := σ.pts ++ [⟨step, who, (σ.places who).getD 0, e⟩] }
theorem w_mlookE {P R P2 R2 : SP} {H H2 : AH} {b : Nat} {f : Int → Option Value} {zero : Value} {kk : OV} {Q : Value → AH → Prop} (k : Int) (h : Holds P H) [m : Mp P b ekI f R] (h2 : Holds P2 H2) [m2 : Mp P2 b ekI f R2] (hk : wp kk Q) :
    wp (eqK (pLookup .int zero (.map (some b)) (vi k) false H) (pLookup .int zero (.map (some b)) (vi k) false H2) kk) Q := by
  have one : ∀ {P R : SP} {H : AH} (h : Holds P H) [m : Mp P b ekI f R], pLookup .int zero (.map (some b)) (vi k) false H = some ((f k).getD zero) := by
    intro P R H h m
    obtain ⟨v, H', e, q⟩ : wp ((pLookup .int zero (.map (some b)) (vi k) false H).bind fun v => some (v, H)) (fun v _ => v = (f k).getD zero) := w_mlook (ek := ekI) k h (w_ret rfl)
    obtain ⟨v', e1, e2⟩ := Option.bind_eq_some_iff.1 e
    have : v' = v := by simpa using congrArg (fun x => x.map Prod.fst) e2
    have e1' : pLookup .int zero (.map (some b)) (vi k) false H = some v' := e1
    rw [e1', this, q]
  exact w_eqK (by rw [one h, one h2]) hk
theorem parts_note (step who e : Int) (hp : σ.pts.length < 1000000) : Sp n_parts_Parts_Note [vp p, vi step, vi who, .agg (retC e).toArray] (partsP p σ) (fun _ : Unit => .tuple #[]) (fun _ => partsP p (σ.note step who e)) := by
  refine sp_of fun R H h => ?_
  obtain ⟨g, hg, h0⟩ := partsP_open h
  unfold partsB at h0
  refine wp_of (fun r => parts_Parts_Note_of _ _ _ _ H) ?_
  refine w_newC h0 fun b1 H1 h1 => ?_
  refine w_ad end_nf ?_
  refine w_Ld1 h1 rfl ?_
  refine w_ad end_nf ?_
  refine w_Ld1 h1 rfl ?_
  refine w_mlook (ek := ekI) who h1 ?_
  refine w_LdN h1 ?_
  refine w_call h1 (parts_own_law e) fun _ H2 h2 => ?_
  refine w_eq1 h2 h1 rfl ?_
  refine w_eq1 h2 h1 rfl ?_
  refine w_mlookE who h2 h1 ?_
  have ev : (((σ.places who).map fun n => vi n).getD (vi 0)) = vi ((σ.places who).getD 0) := by cases σ.places who <;> rfl
  rw [ev]
  refine w_S ?_
  refine w_R h2 fun b0 H3 h3 => ?_
  refine w_tapp (⟨step, who, (σ.places who).getD 0, e⟩ : Pt) h3 rfl ?_ (by omega) fun a cc H4 h4 => ?_
  · unfold room; omega
  refine w_st h4 end_nf rfl rfl fun H5 h5 => ?_
  refine w_ret ⟨(), rfl, ?_⟩
  refine partsP_close { g with pv := .slice a (σ.pts.length + 1) cc } hg ?_
  unfold partsB Sta.note
  exact h5.to
end
end Go.Proofs.YtodpbobjmkhcfaaGreatDoor.Gst
