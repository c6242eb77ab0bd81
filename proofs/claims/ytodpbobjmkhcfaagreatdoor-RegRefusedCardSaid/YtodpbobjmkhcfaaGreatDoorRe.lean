/- An offer that may not be: its first step; what a point tells, of one point. -/
import Derived.Test.YtodpbobjmkhcfaaGreatDoorRd
namespace Go.Proofs.YtodpbobjmkhcfaaGreatDoor.Gst
open Go Go.RowKit
set_option linter.unusedSimpArgs false
set_option linter.unusedVariables false
set_option maxHeartbeats 1000000
set_option synthInstance.maxSize 2000
set_option synthInstance.maxHeartbeats 400000

theorem tmod_in (a : Int) {n : Int} (h : 1 ≤ n) : -n < a.tmod n ∧ a.tmod n < n := by
  have e := Int.natAbs_tmod a n
  have : a.natAbs % n.natAbs < n.natAbs := Nat.mod_lt _ (by omega)
  omega
section
variable (t m p e : Nat) (σ : Sta)
theorem table_shard (sh sl : Nat) (hs : 1 ≤ sh ∧ sh ≤ 4) (flow : Int) : Sp n_table_Table_Shard [vp t, vi flow] (tab t m sh sl) (fun _ : Unit => vi ((flow.tmod sh + sh).tmod sh)) (fun _ => tab t m sh sl) := by
  refine sp_of fun R H h => ?_
  refine wp_of (fun r => table_Table_Shard_of _ _ H) ?_
  unfold tab at h ⊢
  have q := tmod_in flow (n := sh) (by omega)
  refine w_ld h end_nf rfl ?_
  refine w_bind (rem_ii (by omega)) ?_
  refine w_ld h end_nf rfl ?_
  refine w_bind (bin_add_i (by omega) (by omega)) ?_
  refine w_ld h end_nf rfl ?_
  refine w_bind (rem_ii (by omega)) ?_
  exact w_ret ⟨(), rfl, h⟩
/-- An offer as it was made: its call, its shard. -/
def enqNew (e p : Nat) (who : Int) (x : Cl) (s : Int) : SP := blk e (.cells false [vp p, vi who, vi x.op, vi x.flow, vi x.a, vi x.b, vi s, .func (.func n_enq_Enq_first) #[vp e] #[], vi 0, vi 0, vb false, .pointer none, vw 0, vw 0, vi 0, vw 0])
theorem enq_new (hc : rightB σ.c = true) (who : Int) (x : Cl) : Sp n_enq_New [vp p, vi who, .agg (Cl.cells x).toArray] (partsP p σ) (fun e : Nat => vp e) (fun e => partsP p σ * ex fun s : Int => enqNew e p who x s) := by
  have hr := rightB_iff.1 hc
  refine sp_of fun R H h => ?_
  refine wp_of (fun r => enq_New_of _ _ _ H) ?_
  refine w_newC h fun b H1 h1 => ?_
  refine w_LdN h1 ?_
  obtain ⟨g, hg, k1⟩ := partsP_open (p := p) (σ := σ) (R := blk b (.cells false (Cl.cells x)) * R) (H := H1) h1.to
  unfold partsB at k1
  refine w_ld k1 end_nf rfl ?_
  refine w_ld k1 end_f0 rfl ?_
  refine w_call k1 (table_shard g.tb g.m σ.c.sh.toNat σ.c.sl.toNat (by omega) x.flow) fun _ H2 k2 => ?_
  refine w_eqN k2 k1 rfl ?_
  have h2 : Holds (partsP p σ * (blk b (.cells false (Cl.cells x)) * R)) H2 := by
    refine partsP_close g hg ?_
    unfold partsB
    exact k2.to
  refine w_S ?_
  refine w_newC h2 fun e H3 h3 => ?_
  refine w_st h3 end_nf rfl rfl fun H4 h4 => ?_
  refine w_ret ⟨e, rfl, ?_⟩
  have h5 : Holds (blk e (.cells false [vp p, vi who, vi x.op, vi x.flow, vi x.a, vi x.b, vi ((x.flow.tmod σ.c.sh.toNat + σ.c.sh.toNat).tmod σ.c.sh.toNat), .func (.func n_enq_Enq_first) #[vp e] #[], vi 0, vi 0, vb false, .pointer none, vw 0, vw 0, vi 0, vw 0]) * (partsP p σ * R)) H4 := h4.to
  have h6 : Holds ((ex fun s : Int => enqNew e p who x s) * (partsP p σ * R)) H4 := Holds.ex.2 ⟨(x.flow.tmod σ.c.sh.toNat + σ.c.sh.toNat).tmod σ.c.sh.toNat, h5⟩
  exact h6.to
theorem mem_len (μ : Mu) : Sp n_mem_Mem_Len [vp m] (memP m μ) (fun _ : Unit => vi μ.E.length) (fun _ => memP m μ) := by
  refine sp_of fun R H h => ?_
  obtain ⟨⟨c, l, al, es, ck⟩, h1⟩ := Holds.ex.1 h
  rw [sep_assoc, Holds.pu] at h1
  obtain ⟨hp, h1⟩ := h1
  dsimp only at h1
  have h2 : Holds (blk m (.cells false [.map (some c), l]) * (blk c (.map es ck) * ts 5 Ev.cells l μ.E) * R) H := h1
  refine wp_of (fun r => mem_Mem_Len_of _ H) ?_
  refine w_ld h2 end_nf rfl ?_
  refine w_tlen (s := l) (l := μ.E) h2 ?_
  exact w_ret ⟨(), rfl, h⟩
theorem parts_len : Sp n_mem_Mem_Len [vp m] (memP m σ.μ) (fun _ : Unit => vi σ.μ.E.length) (fun _ => memP m σ.μ) := mem_len m σ.μ

/-! ### It is refused -/
theorem enq_ends (r : Value) (x : Int) : Sp n_enq_Enq_ends [r, vi x] emp (fun _ : Unit => .tuple #[.agg (retC x).toArray, vb true]) (fun _ => emp) := by
  refine sp_of fun R H h => ?_
  refine wp_of (fun r => enq_Enq_ends_of _ _ H) ?_
  refine w_new h fun b H1 h1 => ?_
  refine w_S ?_
  refine w_St h1 rfl rfl fun H2 h2 => ?_
  refine w_LdN h2 ?_
  exact w_ret ⟨(), rfl, h2.to⟩
theorem enq_refuse (who : Int) (x : Cl) (s now code : Int) (hp : σ.pts.length < 1000000) : Sp n_enq_Enq_refuse [vp e, vi now, vi code] (enqNew e p who x s * partsP p σ) (fun _ : Unit => .tuple #[.agg (retC code).toArray, vb true]) (fun _ => enqNew e p who x s * partsP p (σ.note now who code)) := by
  have note : Sp n_enq_Enq_note [vp e, vi now, vi code] (enqNew e p who x s * partsP p σ) (fun _ : Unit => .tuple #[]) (fun _ => enqNew e p who x s * partsP p (σ.note now who code)) := by
    refine sp_of fun R H h => ?_
    refine wp_of (fun r => enq_Enq_note_of _ _ _ H) ?_
    unfold enqNew at h ⊢
    refine w_ld h end_nf rfl ?_
    refine w_ld h end_nf rfl ?_
    refine w_S ?_
    refine w_call h (parts_note p σ now who code hp) fun _ H1 h1 => ?_
    exact w_ret ⟨(), rfl, h1.to⟩
  refine sp_of fun R H h => ?_
  refine wp_of (fun r => enq_Enq_refuse_of _ _ _ H) ?_
  refine w_new h fun b H1 h1 => ?_
  refine w_call h1 note fun _ H2 h2 => ?_
  refine w_call h2 (enq_ends (vp e) code) fun _ H3 h3 => ?_
  refine w_bind (v := .agg (retC code).toArray) rfl ?_
  refine w_bind (v := vb true) rfl ?_
  refine w_St h3 rfl rfl fun H4 h4 => ?_
  refine w_LdN h4 ?_
  exact w_ret ⟨(), rfl, h4.to⟩
/-- Why an offer may not be: its length, then its flow. -/
def refusal (x : Cl) : Option Int := if x.a < 1 ∨ 65536 < x.a then some 3 else if x.flow < 0 ∨ 1048576 < x.flow then some 5 else none
theorem enq_step_refused (who : Int) (x : Cl) (s now code : Int) (hx : refusal x = some code) (hp : σ.pts.length < 1000000) :
    Sp n_enq_Enq_Step [vp e, vi now] (enqNew e p who x s * partsP p σ) (fun _ : Unit => .tuple #[.agg (retC code).toArray, vb true]) (fun _ => enqNew e p who x s * partsP p (σ.note now who code)) := by
  have first : Sp n_enq_Enq_first [vp e, vi now] (enqNew e p who x s * partsP p σ) (fun _ : Unit => .tuple #[.agg (retC code).toArray, vb true]) (fun _ => enqNew e p who x s * partsP p (σ.note now who code)) := by
    refine sp_of fun R H h => ?_
    refine wp_of (fun r => enq_Enq_first_of _ _ H) ?_
    refine w_new h fun b H1 h1 => ?_
    refine wp_eq (enq_Enq_first_k0_eq _ _ _ _ H1) ?_
    have k1 := h1
    unfold enqNew at k1
    have fin : wp ((FF n_enq_Enq_refuse [vp e, vi now, vi code] H1).bind fun r25 =>
        (pExtract r25.1 0).bind fun v26 =>
        (pExtract r25.1 1).bind fun v27 =>
        (pSt 4 (vp b) v26 r25.2).bind fun H28 =>
        (pLdN 4 (vp b) H28).bind fun v29 => some (Value.tuple #[v29, v27], H28)) fun v' H' => ∃ x_1 : Unit, v' = .tuple #[.agg (retC code).toArray, vb true] ∧ Holds (enqNew e p who x s * partsP p (σ.note now who code) * R) H' := by
      refine w_call h1 (enq_refuse p e σ who x s now code hp) fun _ H2 h2 => ?_
      refine w_bind (v := .agg (retC code).toArray) rfl ?_
      refine w_bind (v := vb true) rfl ?_
      refine w_St h2 rfl rfl fun H3 h3 => ?_
      refine w_LdN h3 ?_
      exact w_ret ⟨(), rfl, h3.to⟩
    refine w_ld k1 (end_n (end_f (end_f end_nil))) rfl ?_
    unfold refusal at hx
    by_cases ha : x.a < 1
    · rw [if_pos (.inl ha)] at hx
      obtain rfl : (3 : Int) = code := Option.some.inj hx
      refine w_bind (lss_t ha) ?_
      with_reducible repeat (first | refine w_bind (pick_t _ _) ?_ | refine w_bind (pick_f _ _) ?_ | refine w_bind gV_tt ?_ | refine w_bind gV_ff ?_ | refine w_bind gV_tf ?_ | refine w_bind gV_ft ?_ | refine w_bind gB_tf ?_ | refine w_bind gB_ft ?_ | refine w_gE_tf ?_ | refine w_gE_ft ?_ | refine w_gE_tt ?_ | refine w_gE_ff ?_ | refine w_onK_tf ?_ | refine w_onK_ft ?_ | refine w_onK_tt ?_ | refine w_onK_ff ?_ | refine w_gld_tt ?_ | refine w_gld_ff ?_ | refine w_gld_tf ?_ | refine w_gld_ft ?_ | refine w_gldN_tt ?_ | refine w_gldN_ff ?_ | refine w_gldN_tf ?_ | refine w_gldN_ft ?_ | refine w_gB_tt ?_ | refine w_gB_ff ?_ | refine w_bind un_not ?_ | refine w_cond_t ?_ | refine w_cond_f ?_ | refine w_bind gV_u ?_ | refine w_bind gB_u ?_ | refine w_gld_u ?_)
      exact fin
    · refine w_bind (lss_f ha) ?_
      with_reducible repeat (first | refine w_bind (pick_t _ _) ?_ | refine w_bind (pick_f _ _) ?_ | refine w_bind gV_tt ?_ | refine w_bind gV_ff ?_ | refine w_bind gV_tf ?_ | refine w_bind gV_ft ?_ | refine w_bind gB_tf ?_ | refine w_bind gB_ft ?_ | refine w_gE_tf ?_ | refine w_gE_ft ?_ | refine w_gE_tt ?_ | refine w_gE_ff ?_ | refine w_onK_tf ?_ | refine w_onK_ft ?_ | refine w_onK_tt ?_ | refine w_onK_ff ?_ | refine w_gld_tt ?_ | refine w_gld_ff ?_ | refine w_gld_tf ?_ | refine w_gld_ft ?_ | refine w_gldN_tt ?_ | refine w_gldN_ff ?_ | refine w_gldN_tf ?_ | refine w_gldN_ft ?_ | refine w_gB_tt ?_ | refine w_gB_ff ?_ | refine w_bind un_not ?_ | refine w_cond_t ?_ | refine w_cond_f ?_ | refine w_bind gV_u ?_ | refine w_bind gB_u ?_ | refine w_gld_u ?_)
      refine w_ld k1 (end_n (end_f (end_f end_nil))) rfl ?_
      with_reducible repeat (first | refine w_bind (pick_t _ _) ?_ | refine w_bind (pick_f _ _) ?_ | refine w_bind gV_tt ?_ | refine w_bind gV_ff ?_ | refine w_bind gV_tf ?_ | refine w_bind gV_ft ?_ | refine w_bind gB_tf ?_ | refine w_bind gB_ft ?_ | refine w_gE_tf ?_ | refine w_gE_ft ?_ | refine w_gE_tt ?_ | refine w_gE_ff ?_ | refine w_onK_tf ?_ | refine w_onK_ft ?_ | refine w_onK_tt ?_ | refine w_onK_ff ?_ | refine w_gld_tt ?_ | refine w_gld_ff ?_ | refine w_gld_tf ?_ | refine w_gld_ft ?_ | refine w_gldN_tt ?_ | refine w_gldN_ff ?_ | refine w_gldN_tf ?_ | refine w_gldN_ft ?_ | refine w_gB_tt ?_ | refine w_gB_ff ?_ | refine w_bind un_not ?_ | refine w_cond_t ?_ | refine w_cond_f ?_ | refine w_bind gV_u ?_ | refine w_bind gB_u ?_ | refine w_gld_u ?_)
      by_cases ha2 : 65536 < x.a
      · rw [if_pos (.inr ha2)] at hx
        obtain rfl : (3 : Int) = code := Option.some.inj hx
        refine w_bind (gtr_t ha2) ?_
        with_reducible repeat (first | refine w_bind (pick_t _ _) ?_ | refine w_bind (pick_f _ _) ?_ | refine w_bind gV_tt ?_ | refine w_bind gV_ff ?_ | refine w_bind gV_tf ?_ | refine w_bind gV_ft ?_ | refine w_bind gB_tf ?_ | refine w_bind gB_ft ?_ | refine w_gE_tf ?_ | refine w_gE_ft ?_ | refine w_gE_tt ?_ | refine w_gE_ff ?_ | refine w_onK_tf ?_ | refine w_onK_ft ?_ | refine w_onK_tt ?_ | refine w_onK_ff ?_ | refine w_gld_tt ?_ | refine w_gld_ff ?_ | refine w_gld_tf ?_ | refine w_gld_ft ?_ | refine w_gldN_tt ?_ | refine w_gldN_ff ?_ | refine w_gldN_tf ?_ | refine w_gldN_ft ?_ | refine w_gB_tt ?_ | refine w_gB_ff ?_ | refine w_bind un_not ?_ | refine w_cond_t ?_ | refine w_cond_f ?_ | refine w_bind gV_u ?_ | refine w_bind gB_u ?_ | refine w_gld_u ?_)
        exact fin
      · refine w_bind (gtr_f ha2) ?_
        with_reducible repeat (first | refine w_bind (pick_t _ _) ?_ | refine w_bind (pick_f _ _) ?_ | refine w_bind gV_tt ?_ | refine w_bind gV_ff ?_ | refine w_bind gV_tf ?_ | refine w_bind gV_ft ?_ | refine w_bind gB_tf ?_ | refine w_bind gB_ft ?_ | refine w_gE_tf ?_ | refine w_gE_ft ?_ | refine w_gE_tt ?_ | refine w_gE_ff ?_ | refine w_onK_tf ?_ | refine w_onK_ft ?_ | refine w_onK_tt ?_ | refine w_onK_ff ?_ | refine w_gld_tt ?_ | refine w_gld_ff ?_ | refine w_gld_tf ?_ | refine w_gld_ft ?_ | refine w_gldN_tt ?_ | refine w_gldN_ff ?_ | refine w_gldN_tf ?_ | refine w_gldN_ft ?_ | refine w_gB_tt ?_ | refine w_gB_ff ?_ | refine w_bind un_not ?_ | refine w_cond_t ?_ | refine w_cond_f ?_ | refine w_bind gV_u ?_ | refine w_bind gB_u ?_ | refine w_gld_u ?_)
        rw [if_neg (by omega)] at hx
        refine w_ld k1 (end_n (end_f (end_f end_nil))) rfl ?_
        by_cases hf : x.flow < 0
        · rw [if_pos (.inl hf)] at hx
          obtain rfl : (5 : Int) = code := Option.some.inj hx
          refine w_bind (lss_t hf) ?_
          with_reducible repeat (first | refine w_bind (pick_t _ _) ?_ | refine w_bind (pick_f _ _) ?_ | refine w_bind gV_tt ?_ | refine w_bind gV_ff ?_ | refine w_bind gV_tf ?_ | refine w_bind gV_ft ?_ | refine w_bind gB_tf ?_ | refine w_bind gB_ft ?_ | refine w_gE_tf ?_ | refine w_gE_ft ?_ | refine w_gE_tt ?_ | refine w_gE_ff ?_ | refine w_onK_tf ?_ | refine w_onK_ft ?_ | refine w_onK_tt ?_ | refine w_onK_ff ?_ | refine w_gld_tt ?_ | refine w_gld_ff ?_ | refine w_gld_tf ?_ | refine w_gld_ft ?_ | refine w_gldN_tt ?_ | refine w_gldN_ff ?_ | refine w_gldN_tf ?_ | refine w_gldN_ft ?_ | refine w_gB_tt ?_ | refine w_gB_ff ?_ | refine w_bind un_not ?_ | refine w_cond_t ?_ | refine w_cond_f ?_ | refine w_bind gV_u ?_ | refine w_bind gB_u ?_ | refine w_gld_u ?_)
          exact fin
        · refine w_bind (lss_f hf) ?_
          with_reducible repeat (first | refine w_bind (pick_t _ _) ?_ | refine w_bind (pick_f _ _) ?_ | refine w_bind gV_tt ?_ | refine w_bind gV_ff ?_ | refine w_bind gV_tf ?_ | refine w_bind gV_ft ?_ | refine w_bind gB_tf ?_ | refine w_bind gB_ft ?_ | refine w_gE_tf ?_ | refine w_gE_ft ?_ | refine w_gE_tt ?_ | refine w_gE_ff ?_ | refine w_onK_tf ?_ | refine w_onK_ft ?_ | refine w_onK_tt ?_ | refine w_onK_ff ?_ | refine w_gld_tt ?_ | refine w_gld_ff ?_ | refine w_gld_tf ?_ | refine w_gld_ft ?_ | refine w_gldN_tt ?_ | refine w_gldN_ff ?_ | refine w_gldN_tf ?_ | refine w_gldN_ft ?_ | refine w_gB_tt ?_ | refine w_gB_ff ?_ | refine w_bind un_not ?_ | refine w_cond_t ?_ | refine w_cond_f ?_ | refine w_bind gV_u ?_ | refine w_bind gB_u ?_ | refine w_gld_u ?_)
          refine w_ld k1 (end_n (end_f (end_f end_nil))) rfl ?_
          with_reducible repeat (first | refine w_bind (pick_t _ _) ?_ | refine w_bind (pick_f _ _) ?_ | refine w_bind gV_tt ?_ | refine w_bind gV_ff ?_ | refine w_bind gV_tf ?_ | refine w_bind gV_ft ?_ | refine w_bind gB_tf ?_ | refine w_bind gB_ft ?_ | refine w_gE_tf ?_ | refine w_gE_ft ?_ | refine w_gE_tt ?_ | refine w_gE_ff ?_ | refine w_onK_tf ?_ | refine w_onK_ft ?_ | refine w_onK_tt ?_ | refine w_onK_ff ?_ | refine w_gld_tt ?_ | refine w_gld_ff ?_ | refine w_gld_tf ?_ | refine w_gld_ft ?_ | refine w_gldN_tt ?_ | refine w_gldN_ff ?_ | refine w_gldN_tf ?_ | refine w_gldN_ft ?_ | refine w_gB_tt ?_ | refine w_gB_ff ?_ | refine w_bind un_not ?_ | refine w_cond_t ?_ | refine w_cond_f ?_ | refine w_bind gV_u ?_ | refine w_bind gB_u ?_ | refine w_gld_u ?_)
          by_cases hf2 : 1048576 < x.flow
          · rw [if_pos (.inr hf2)] at hx
            obtain rfl : (5 : Int) = code := Option.some.inj hx
            refine w_bind (gtr_t hf2) ?_
            with_reducible repeat (first | refine w_bind (pick_t _ _) ?_ | refine w_bind (pick_f _ _) ?_ | refine w_bind gV_tt ?_ | refine w_bind gV_ff ?_ | refine w_bind gV_tf ?_ | refine w_bind gV_ft ?_ | refine w_bind gB_tf ?_ | refine w_bind gB_ft ?_ | refine w_gE_tf ?_ | refine w_gE_ft ?_ | refine w_gE_tt ?_ | refine w_gE_ff ?_ | refine w_onK_tf ?_ | refine w_onK_ft ?_ | refine w_onK_tt ?_ | refine w_onK_ff ?_ | refine w_gld_tt ?_ | refine w_gld_ff ?_ | refine w_gld_tf ?_ | refine w_gld_ft ?_ | refine w_gldN_tt ?_ | refine w_gldN_ff ?_ | refine w_gldN_tf ?_ | refine w_gldN_ft ?_ | refine w_gB_tt ?_ | refine w_gB_ff ?_ | refine w_bind un_not ?_ | refine w_cond_t ?_ | refine w_cond_f ?_ | refine w_bind gV_u ?_ | refine w_bind gB_u ?_ | refine w_gld_u ?_)
            exact fin
          · rw [if_neg (by omega)] at hx
            cases hx
  refine sp_of fun R H h => ?_
  refine wp_of (fun r => enq_Enq_Step_of _ _ H) ?_
  refine w_new h fun b H1 h1 => ?_
  have k1 := h1
  unfold enqNew at k1
  refine w_ld k1 end_nf rfl ?_
  refine wp_eq (show (pCallee (.func (.func n_enq_Enq_first) #[vp e] #[]) [vi now]).bind _ = _ from rfl) ?_
  refine w_call h1 first fun _ H2 h2 => ?_
  refine w_bind (v := .agg (retC code).toArray) rfl ?_
  refine w_bind (v := vb true) rfl ?_
  refine w_St h2 rfl rfl fun H3 h3 => ?_
  refine w_LdN h3 ?_
  exact w_ret ⟨(), rfl, h3.to⟩
end
end Go.Proofs.YtodpbobjmkhcfaaGreatDoor.Gst
