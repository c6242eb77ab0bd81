/- The statements on tries, of the abstract run. -/
import Derived.Test.YtbjelopcelompaaGreatDoorQh
namespace Go.Proofs.YtbjelopcelompaaGreatDoor.Gst
open Go Go.RowKit
set_option linter.unusedSimpArgs false
set_option linter.unusedVariables false
set_option maxHeartbeats 2000000

instance LenL.ev (e : Ev) : LenL (Ev.cells e) 5 := ⟨rfl⟩
theorem w_mkRB {len e : Nat} {zero : List Value} {xs : List (Nat × Value)} {cs : List Value} {P : SP} {H : AH} {k : Value × AH → OV} {Q : Value → AH → Prop} (h : Holds P H) (hf : pFill (offs e) (List.replicate len zero).flatten xs = some cs)
    (hk : ∀ b H', Holds (blk b (.cells false cs) * P) H' → wp (k (vs b len e, H')) Q) : wp ((mkR len e zero xs H fun v H => some (v, H)).bind k) Q := by
  unfold mkR rowK
  rw [hf]
  exact hk _ _ (h.push _)
/-! ### near -/
theorem near_law (e : Ev) : Sp n_l29_near [.agg (Ev.cells e).toArray] emp (fun e' : Ev => .agg (Ev.cells e').toArray) (fun _ => emp) := by
  refine sp_of fun R H h => ?_
  refine wp_of (fun r => l29_near_of _ H) ?_
  refine w_newC h fun b H1 h1 => ?_
  have h1' : Holds (blk b (.cells false [vi e.who, vi e.kind, vi e.loc.1, vi e.loc.2.1, vi e.loc.2.2]) * (emp * R)) H1 := h1
  refine w_new h1' fun b2 H2 h2 => ?_
  refine w_ld h2 end_f0 rfl ?_
  refine w_call (by assumption) (play_mod e.who 3 (by omega) (by omega)) fun _ H3 h3 => ?_
  refine w_st h3 end_f0 rfl rfl fun H4 h4 => ?_
  refine w_mkR (cs := [vi 1, vi 3, vi 4, vi 1, vi 3, vi 4, vi 2]) h4 rfl fun b3 H5 h5 => ?_
  refine w_ld h5 end_f0 rfl ?_
  refine w_call (by assumption) (play_mod e.kind 7 (by omega) (by omega)) fun _ H6 h6 => ?_
  have h7 := modI_lt (v := e.kind) (n := 7) (by omega)
  obtain ⟨j, hj⟩ : ∃ j : Nat, modI e.kind 7 = j := ⟨(modI e.kind 7).toNat, by omega⟩
  rw [hj]
  have hj7 : j < 7 := by omega
  have hcell : ∃ x : Int, ([vi 1, vi 3, vi 4, vi 1, vi 3, vi 4, vi 2] : List Value)[0 + j * 1]? = some (vi x) := by
    match j, hj7 with
    | 0, _ => exact ⟨1, rfl⟩
    | 1, _ => exact ⟨3, rfl⟩
    | 2, _ => exact ⟨4, rfl⟩
    | 3, _ => exact ⟨1, rfl⟩
    | 4, _ => exact ⟨3, rfl⟩
    | 5, _ => exact ⟨4, rfl⟩
    | 6, _ => exact ⟨2, rfl⟩
  obtain ⟨x, hx⟩ := hcell
  refine w_ld h6 (end_i (n := 7) hj7 end_nil) hx ?_
  refine w_st h6 end_f0 rfl rfl fun H8 h8 => ?_
  refine wp_eq (l29_near_k0_eq _ _ _ H8) ?_
  refine w_ld h8 (end_f (end_f end_nil)) rfl ?_
  refine w_call (by assumption) (play_mod e.loc.2.2 9 (by omega) (by omega)) fun _ H9 h9 => ?_
  have tail : ∀ kk : Int, wp (l29_near_k1 (vp b) (vp b2) (vi kk) H9) fun v' H' => ∃ e' : Ev, v' = .agg (Ev.cells e').toArray ∧ Holds (emp * R) H' := by
    intro kk
    refine wp_eq (l29_near_k1_eq _ _ _ H9) ?_
    refine w_ld h9 (end_f (end_f end_nil)) rfl ?_
    refine w_call (by assumption) (play_mod e.loc.2.1 2 (by omega) (by omega)) fun _ H10 h10 => ?_
    refine w_S ?_
    refine w_st h10 end_f0 rfl rfl fun H11 h11 => ?_
    refine w_LdN h11 ?_
    refine w_St h11 rfl rfl fun H12 h12 => ?_
    refine w_LdN h12 ?_
    exact w_ret ⟨⟨modI e.who 3, x, (kk, modI e.loc.2.1 2, 0)⟩, rfl, h12.to⟩
  refine w_bind (bin_eql) ?_
  refine w_cond (fun _ => tail 12) (fun _ => tail 11)

/-! ### Events of an argument -/
abbrev EvTy : Ty := .pair (.int .i64) (.pair (.int .i64) (.pair (.pair (.int .i64) (.pair (.int .i64) (.pair (.int .i64) .unit))) .unit))
def toEv (x : EvTy.I) : Ev := ⟨x.1, x.2.1, (x.2.2.1.1, x.2.2.1.2.1, x.2.2.1.2.2.1)⟩
theorem args_evs {H0 : AH} {v : Value} {l : List EvTy.I} (h : Abs H0 (.slice EvTy) l [v]) : Rd (fix H0) v 5 Ev.cells (l.map toEv) := by
  have E : Enc (fun x : EvTy.I => Ev.cells (toEv x)) EvTy.w := ⟨fun _ => rfl, fun _ => rfl, by decide⟩
  have r := Rd.arg (t := EvTy) (enc := fun x => Ev.cells (toEv x)) (E := E) (fun x c hx => by
    obtain ⟨c1, c2, rfl, h1, c3, c4, rfl, h2, c5, c6, rfl, ⟨d1, d2, rfl, g1, d3, d4, rfl, g2, d5, d6, rfl, g3, g4⟩, h4⟩ := hx
    have g4 : d6 = [] := g4
    have h4 : c6 = [] := h4
    rw [h1.1, h2.1, g1.1, g2.1, g3.1, g4, h4]
    rfl) h
  refine ⟨fun {H} hh => ?_⟩
  have := r.rd hh
  rw [List.flatMap_map, List.length_map]
  exact this

section
variable {H0 : AH} {v : Value}
theorem tries_tail (hT : H0.get 0 = some (.cells true tabC)) (x4 : Value) {x5 : Value} {m : List Ev} {H : AH} (hm : m.length ≤ 60) (h : Holds (ts 5 Ev.cells x5 m * fix H0) H) :
    wp (l29_PaceTries_k1 x4 x5 H) fun v' _ => v' = vb true := by
  haveI := args_tab hT
  refine wp_eq (l29_PaceTries_k1_eq _ _ H) ?_
  refine w_awake h fun H1 h1 => ?_
  repeat (first
    | with_reducible refine w_bind (pick_t _ _) ?_
    | with_reducible refine w_bind (pick_f _ _) ?_
    | with_reducible refine w_bind gV_tt ?_
    | with_reducible refine w_bind gV_ff ?_
    | with_reducible refine w_bind gV_tf ?_
    | with_reducible refine w_bind gV_ft ?_
    | with_reducible refine w_bind gB_tf ?_
    | with_reducible refine w_bind gB_ft ?_
    | with_reducible refine w_gE_tf ?_
    | with_reducible refine w_gE_ft ?_
    | with_reducible refine w_gE_tt ?_
    | with_reducible refine w_gE_ff ?_
    | with_reducible refine w_onK_tf ?_
    | with_reducible refine w_onK_ft ?_
    | with_reducible refine w_onK_tt ?_
    | with_reducible refine w_onK_ff ?_
    | with_reducible refine w_gld_tt ?_
    | with_reducible refine w_gld_ff ?_
    | with_reducible refine w_gld_tf ?_
    | with_reducible refine w_gld_ft ?_
    | with_reducible refine w_gldN_tt ?_
    | with_reducible refine w_gldN_ff ?_
    | with_reducible refine w_gldN_tf ?_
    | with_reducible refine w_gldN_ft ?_
    | with_reducible refine w_gB_tt ?_
    | with_reducible refine w_gB_ff ?_
    | with_reducible refine w_bind un_not ?_
    | with_reducible refine w_cond_t ?_
    | with_reducible refine w_cond_f ?_
    | with_reducible refine w_bind gV_u ?_
    | with_reducible refine w_bind gB_u ?_
    | with_reducible refine w_gld_u ?_)
  refine w_ro h1 (pace_tries (s := x5) (l := m) (by omega)) fun H2 h2 => ?_
  repeat (first
    | with_reducible refine w_bind (pick_t _ _) ?_
    | with_reducible refine w_bind (pick_f _ _) ?_
    | with_reducible refine w_bind gV_tt ?_
    | with_reducible refine w_bind gV_ff ?_
    | with_reducible refine w_bind gV_tf ?_
    | with_reducible refine w_bind gV_ft ?_
    | with_reducible refine w_bind gB_tf ?_
    | with_reducible refine w_bind gB_ft ?_
    | with_reducible refine w_gE_tf ?_
    | with_reducible refine w_gE_ft ?_
    | with_reducible refine w_gE_tt ?_
    | with_reducible refine w_gE_ff ?_
    | with_reducible refine w_onK_tf ?_
    | with_reducible refine w_onK_ft ?_
    | with_reducible refine w_onK_tt ?_
    | with_reducible refine w_onK_ff ?_
    | with_reducible refine w_gld_tt ?_
    | with_reducible refine w_gld_ff ?_
    | with_reducible refine w_gld_tf ?_
    | with_reducible refine w_gld_ft ?_
    | with_reducible refine w_gldN_tt ?_
    | with_reducible refine w_gldN_ff ?_
    | with_reducible refine w_gldN_tf ?_
    | with_reducible refine w_gldN_ft ?_
    | with_reducible refine w_gB_tt ?_
    | with_reducible refine w_gB_ff ?_
    | with_reducible refine w_bind un_not ?_
    | with_reducible refine w_cond_t ?_
    | with_reducible refine w_cond_f ?_
    | with_reducible refine w_bind gV_u ?_
    | with_reducible refine w_bind gB_u ?_
    | with_reducible refine w_gld_u ?_)
  refine w_ro h2 (r27_tries (s := x5) (l := m) (by omega)) fun H3 h3 => ?_
  repeat (first
    | with_reducible refine w_bind (pick_t _ _) ?_
    | with_reducible refine w_bind (pick_f _ _) ?_
    | with_reducible refine w_bind gV_tt ?_
    | with_reducible refine w_bind gV_ff ?_
    | with_reducible refine w_bind gV_tf ?_
    | with_reducible refine w_bind gV_ft ?_
    | with_reducible refine w_bind gB_tf ?_
    | with_reducible refine w_bind gB_ft ?_
    | with_reducible refine w_gE_tf ?_
    | with_reducible refine w_gE_ft ?_
    | with_reducible refine w_gE_tt ?_
    | with_reducible refine w_gE_ff ?_
    | with_reducible refine w_onK_tf ?_
    | with_reducible refine w_onK_ft ?_
    | with_reducible refine w_onK_tt ?_
    | with_reducible refine w_onK_ff ?_
    | with_reducible refine w_gld_tt ?_
    | with_reducible refine w_gld_ff ?_
    | with_reducible refine w_gld_tf ?_
    | with_reducible refine w_gld_ft ?_
    | with_reducible refine w_gldN_tt ?_
    | with_reducible refine w_gldN_ff ?_
    | with_reducible refine w_gldN_tf ?_
    | with_reducible refine w_gldN_ft ?_
    | with_reducible refine w_gB_tt ?_
    | with_reducible refine w_gB_ff ?_
    | with_reducible refine w_bind un_not ?_
    | with_reducible refine w_cond_t ?_
    | with_reducible refine w_cond_f ?_
    | with_reducible refine w_bind gV_u ?_
    | with_reducible refine w_bind gB_u ?_
    | with_reducible refine w_gld_u ?_)
  refine w_bind (bin_eqb) ?_
  rw [beq_self_eq_true]
  repeat (first
    | with_reducible refine w_bind (pick_t _ _) ?_
    | with_reducible refine w_bind (pick_f _ _) ?_
    | with_reducible refine w_bind gV_tt ?_
    | with_reducible refine w_bind gV_ff ?_
    | with_reducible refine w_bind gV_tf ?_
    | with_reducible refine w_bind gV_ft ?_
    | with_reducible refine w_bind gB_tf ?_
    | with_reducible refine w_bind gB_ft ?_
    | with_reducible refine w_gE_tf ?_
    | with_reducible refine w_gE_ft ?_
    | with_reducible refine w_gE_tt ?_
    | with_reducible refine w_gE_ff ?_
    | with_reducible refine w_onK_tf ?_
    | with_reducible refine w_onK_ft ?_
    | with_reducible refine w_onK_tt ?_
    | with_reducible refine w_onK_ff ?_
    | with_reducible refine w_gld_tt ?_
    | with_reducible refine w_gld_ff ?_
    | with_reducible refine w_gld_tf ?_
    | with_reducible refine w_gld_ft ?_
    | with_reducible refine w_gldN_tt ?_
    | with_reducible refine w_gldN_ff ?_
    | with_reducible refine w_gldN_tf ?_
    | with_reducible refine w_gldN_ft ?_
    | with_reducible refine w_gB_tt ?_
    | with_reducible refine w_gB_ff ?_
    | with_reducible refine w_bind un_not ?_
    | with_reducible refine w_cond_t ?_
    | with_reducible refine w_cond_f ?_
    | with_reducible refine w_bind gV_u ?_
    | with_reducible refine w_bind gB_u ?_
    | with_reducible refine w_gld_u ?_)
  exact w_ret rfl
theorem paceTries {l : List EvTy.I} (hT : H0.get 0 = some (.cells true tabC)) (hl : Abs H0 (.slice EvTy) l [v]) (b : Bool) : ∃ H', FF n_l29_PaceTries [v, vb b] H0 = some (vb true, H') := by
  have key : wp (FF n_l29_PaceTries [v, vb b] H0) fun v' _ => v' = vb true := by
    haveI := args_evs hl
    generalize l.map toEv = l at *
    refine wp_of (fun r => l29_PaceTries_of _ _ H0) ?_
    refine wp_eq (l29_PaceTries_k0_eq _ _ _ _ H0) ?_
    refine wp_eq (l29_PaceTries_k9_eq _ _ _ _ _ H0) ?_
    have loop : ∀ (d i : Nat) (x5 : Value) (m : List Ev) (H : AH), i + d = min l.length 60 → m.length = i → Holds (ts 5 Ev.cells x5 m * fix H0) H → wp (l29_PaceTries_k11 v (vb b) (vb false) x5 (vi i) H) fun v' _ => v' = vb true := by
      intro d
      induction d with
      | zero =>
        intro i x5 m H hi hm h
        refine wp_eq (l29_PaceTries_k11_eq _ _ _ _ _ H) ?_
        refine w_rlen (s := v) (l := l) h ?_
        have stop : wp (l29_PaceTries_e10_0 (vb false) x5 H) fun v' _ => v' = vb true := by
          refine wp_eq (l29_PaceTries_e10_0_eq _ _ H) ?_
          exact tries_tail hT _ (by omega) h
        by_cases hil : (i : Int) < l.length
        · refine w_bind (lss_t hil) ?_
          repeat (first
            | with_reducible refine w_bind (pick_t _ _) ?_
            | with_reducible refine w_bind (pick_f _ _) ?_
            | with_reducible refine w_bind gV_tt ?_
            | with_reducible refine w_bind gV_ff ?_
            | with_reducible refine w_bind gV_tf ?_
            | with_reducible refine w_bind gV_ft ?_
            | with_reducible refine w_bind gB_tf ?_
            | with_reducible refine w_bind gB_ft ?_
            | with_reducible refine w_gE_tf ?_
            | with_reducible refine w_gE_ft ?_
            | with_reducible refine w_gE_tt ?_
            | with_reducible refine w_gE_ff ?_
            | with_reducible refine w_onK_tf ?_
            | with_reducible refine w_onK_ft ?_
            | with_reducible refine w_onK_tt ?_
            | with_reducible refine w_onK_ff ?_
            | with_reducible refine w_gld_tt ?_
            | with_reducible refine w_gld_ff ?_
            | with_reducible refine w_gld_tf ?_
            | with_reducible refine w_gld_ft ?_
            | with_reducible refine w_gldN_tt ?_
            | with_reducible refine w_gldN_ff ?_
            | with_reducible refine w_gldN_tf ?_
            | with_reducible refine w_gldN_ft ?_
            | with_reducible refine w_gB_tt ?_
            | with_reducible refine w_gB_ff ?_
            | with_reducible refine w_bind un_not ?_
            | with_reducible refine w_cond_t ?_
            | with_reducible refine w_cond_f ?_
            | with_reducible refine w_bind gV_u ?_
            | with_reducible refine w_bind gB_u ?_
            | with_reducible refine w_gld_u ?_)
          refine w_bind (lss_f (by omega)) ?_
          repeat (first
            | with_reducible refine w_bind (pick_t _ _) ?_
            | with_reducible refine w_bind (pick_f _ _) ?_
            | with_reducible refine w_bind gV_tt ?_
            | with_reducible refine w_bind gV_ff ?_
            | with_reducible refine w_bind gV_tf ?_
            | with_reducible refine w_bind gV_ft ?_
            | with_reducible refine w_bind gB_tf ?_
            | with_reducible refine w_bind gB_ft ?_
            | with_reducible refine w_gE_tf ?_
            | with_reducible refine w_gE_ft ?_
            | with_reducible refine w_gE_tt ?_
            | with_reducible refine w_gE_ff ?_
            | with_reducible refine w_onK_tf ?_
            | with_reducible refine w_onK_ft ?_
            | with_reducible refine w_onK_tt ?_
            | with_reducible refine w_onK_ff ?_
            | with_reducible refine w_gld_tt ?_
            | with_reducible refine w_gld_ff ?_
            | with_reducible refine w_gld_tf ?_
            | with_reducible refine w_gld_ft ?_
            | with_reducible refine w_gldN_tt ?_
            | with_reducible refine w_gldN_ff ?_
            | with_reducible refine w_gldN_tf ?_
            | with_reducible refine w_gldN_ft ?_
            | with_reducible refine w_gB_tt ?_
            | with_reducible refine w_gB_ff ?_
            | with_reducible refine w_bind un_not ?_
            | with_reducible refine w_cond_t ?_
            | with_reducible refine w_cond_f ?_
            | with_reducible refine w_bind gV_u ?_
            | with_reducible refine w_bind gB_u ?_
            | with_reducible refine w_gld_u ?_)
          exact stop
        · refine w_bind (lss_f hil) ?_
          repeat (first
            | with_reducible refine w_bind (pick_t _ _) ?_
            | with_reducible refine w_bind (pick_f _ _) ?_
            | with_reducible refine w_bind gV_tt ?_
            | with_reducible refine w_bind gV_ff ?_
            | with_reducible refine w_bind gV_tf ?_
            | with_reducible refine w_bind gV_ft ?_
            | with_reducible refine w_bind gB_tf ?_
            | with_reducible refine w_bind gB_ft ?_
            | with_reducible refine w_gE_tf ?_
            | with_reducible refine w_gE_ft ?_
            | with_reducible refine w_gE_tt ?_
            | with_reducible refine w_gE_ff ?_
            | with_reducible refine w_onK_tf ?_
            | with_reducible refine w_onK_ft ?_
            | with_reducible refine w_onK_tt ?_
            | with_reducible refine w_onK_ff ?_
            | with_reducible refine w_gld_tt ?_
            | with_reducible refine w_gld_ff ?_
            | with_reducible refine w_gld_tf ?_
            | with_reducible refine w_gld_ft ?_
            | with_reducible refine w_gldN_tt ?_
            | with_reducible refine w_gldN_ff ?_
            | with_reducible refine w_gldN_tf ?_
            | with_reducible refine w_gldN_ft ?_
            | with_reducible refine w_gB_tt ?_
            | with_reducible refine w_gB_ff ?_
            | with_reducible refine w_bind un_not ?_
            | with_reducible refine w_cond_t ?_
            | with_reducible refine w_cond_f ?_
            | with_reducible refine w_bind gV_u ?_
            | with_reducible refine w_bind gB_u ?_
            | with_reducible refine w_gld_u ?_)
          exact stop
      | succ d ih =>
        intro i x5 m H hi hm h
        have hil : i < l.length := by omega
        refine wp_eq (l29_PaceTries_k11_eq _ _ _ _ _ H) ?_
        refine w_rlen (s := v) (l := l) h ?_
        refine w_bind (lss_t (by omega)) ?_
        repeat (first
          | with_reducible refine w_bind (pick_t _ _) ?_
          | with_reducible refine w_bind (pick_f _ _) ?_
          | with_reducible refine w_bind gV_tt ?_
          | with_reducible refine w_bind gV_ff ?_
          | with_reducible refine w_bind gV_tf ?_
          | with_reducible refine w_bind gV_ft ?_
          | with_reducible refine w_bind gB_tf ?_
          | with_reducible refine w_bind gB_ft ?_
          | with_reducible refine w_gE_tf ?_
          | with_reducible refine w_gE_ft ?_
          | with_reducible refine w_gE_tt ?_
          | with_reducible refine w_gE_ff ?_
          | with_reducible refine w_onK_tf ?_
          | with_reducible refine w_onK_ft ?_
          | with_reducible refine w_onK_tt ?_
          | with_reducible refine w_onK_ff ?_
          | with_reducible refine w_gld_tt ?_
          | with_reducible refine w_gld_ff ?_
          | with_reducible refine w_gld_tf ?_
          | with_reducible refine w_gld_ft ?_
          | with_reducible refine w_gldN_tt ?_
          | with_reducible refine w_gldN_ff ?_
          | with_reducible refine w_gldN_tf ?_
          | with_reducible refine w_gldN_ft ?_
          | with_reducible refine w_gB_tt ?_
          | with_reducible refine w_gB_ff ?_
          | with_reducible refine w_bind un_not ?_
          | with_reducible refine w_cond_t ?_
          | with_reducible refine w_cond_f ?_
          | with_reducible refine w_bind gV_u ?_
          | with_reducible refine w_bind gB_u ?_
          | with_reducible refine w_gld_u ?_)
        refine w_bind (lss_t (by omega)) ?_
        repeat (first
          | with_reducible refine w_bind (pick_t _ _) ?_
          | with_reducible refine w_bind (pick_f _ _) ?_
          | with_reducible refine w_bind gV_tt ?_
          | with_reducible refine w_bind gV_ff ?_
          | with_reducible refine w_bind gV_tf ?_
          | with_reducible refine w_bind gV_ft ?_
          | with_reducible refine w_bind gB_tf ?_
          | with_reducible refine w_bind gB_ft ?_
          | with_reducible refine w_gE_tf ?_
          | with_reducible refine w_gE_ft ?_
          | with_reducible refine w_gE_tt ?_
          | with_reducible refine w_gE_ff ?_
          | with_reducible refine w_onK_tf ?_
          | with_reducible refine w_onK_ft ?_
          | with_reducible refine w_onK_tt ?_
          | with_reducible refine w_onK_ff ?_
          | with_reducible refine w_gld_tt ?_
          | with_reducible refine w_gld_ff ?_
          | with_reducible refine w_gld_tf ?_
          | with_reducible refine w_gld_ft ?_
          | with_reducible refine w_gldN_tt ?_
          | with_reducible refine w_gldN_ff ?_
          | with_reducible refine w_gldN_tf ?_
          | with_reducible refine w_gldN_ft ?_
          | with_reducible refine w_gB_tt ?_
          | with_reducible refine w_gB_ff ?_
          | with_reducible refine w_bind un_not ?_
          | with_reducible refine w_cond_t ?_
          | with_reducible refine w_cond_f ?_
          | with_reducible refine w_bind gV_u ?_
          | with_reducible refine w_bind gB_u ?_
          | with_reducible refine w_gld_u ?_)
        refine wp_eq (l29_PaceTries_k12_eq _ _ _ _ _ H) ?_
        refine w_rldN (s := v) (l := l) h hil ?_
        refine w_new h fun b0 H1 h1 => ?_
        refine w_St h1 rfl rfl fun H2 h2 => ?_
        refine wp_eq (l29_PaceTries_k16_eq _ _ _ _ _ _ H2) ?_
        have next : ∀ (e : Ev) (H3 : AH), Holds (blk b0 (.cells false (Ev.cells e)) * (ts 5 Ev.cells x5 m * fix H0)) H3 → wp (l29_PaceTries_k17 v (vb b) (vb false) x5 (vi i) (vp b0) H3) fun v' _ => v' = vb true := by
          intro e H3 h3
          refine wp_eq (l29_PaceTries_k17_eq _ _ _ _ _ _ H3) ?_
          refine w_LdN h3 ?_
          refine w_R h3 fun b1 H4 h4 => ?_
          refine w_tapp (e : Ev) h4 rfl ?_ (by omega) fun a c H5 h5 => ?_
          · unfold room; omega
          refine wp_eq (l29_PaceTries_k13_eq _ _ _ _ _ H5) ?_
          refine w_bind (bin_add_i (by omega) (by omega)) ?_
          exact ih (i + 1) _ (m ++ [e]) H5 (by omega) (by simp; omega) h5.to
        cases b with
        | true =>
          repeat (first
            | with_reducible refine w_bind (pick_t _ _) ?_
            | with_reducible refine w_bind (pick_f _ _) ?_
            | with_reducible refine w_bind gV_tt ?_
            | with_reducible refine w_bind gV_ff ?_
            | with_reducible refine w_bind gV_tf ?_
            | with_reducible refine w_bind gV_ft ?_
            | with_reducible refine w_bind gB_tf ?_
            | with_reducible refine w_bind gB_ft ?_
            | with_reducible refine w_gE_tf ?_
            | with_reducible refine w_gE_ft ?_
            | with_reducible refine w_gE_tt ?_
            | with_reducible refine w_gE_ff ?_
            | with_reducible refine w_onK_tf ?_
            | with_reducible refine w_onK_ft ?_
            | with_reducible refine w_onK_tt ?_
            | with_reducible refine w_onK_ff ?_
            | with_reducible refine w_gld_tt ?_
            | with_reducible refine w_gld_ff ?_
            | with_reducible refine w_gld_tf ?_
            | with_reducible refine w_gld_ft ?_
            | with_reducible refine w_gldN_tt ?_
            | with_reducible refine w_gldN_ff ?_
            | with_reducible refine w_gldN_tf ?_
            | with_reducible refine w_gldN_ft ?_
            | with_reducible refine w_gB_tt ?_
            | with_reducible refine w_gB_ff ?_
            | with_reducible refine w_bind un_not ?_
            | with_reducible refine w_cond_t ?_
            | with_reducible refine w_cond_f ?_
            | with_reducible refine w_bind gV_u ?_
            | with_reducible refine w_bind gB_u ?_
            | with_reducible refine w_gld_u ?_)
          rw [Bool.not_true]
          repeat (first
            | with_reducible refine w_bind (pick_t _ _) ?_
            | with_reducible refine w_bind (pick_f _ _) ?_
            | with_reducible refine w_bind gV_tt ?_
            | with_reducible refine w_bind gV_ff ?_
            | with_reducible refine w_bind gV_tf ?_
            | with_reducible refine w_bind gV_ft ?_
            | with_reducible refine w_bind gB_tf ?_
            | with_reducible refine w_bind gB_ft ?_
            | with_reducible refine w_gE_tf ?_
            | with_reducible refine w_gE_ft ?_
            | with_reducible refine w_gE_tt ?_
            | with_reducible refine w_gE_ff ?_
            | with_reducible refine w_onK_tf ?_
            | with_reducible refine w_onK_ft ?_
            | with_reducible refine w_onK_tt ?_
            | with_reducible refine w_onK_ff ?_
            | with_reducible refine w_gld_tt ?_
            | with_reducible refine w_gld_ff ?_
            | with_reducible refine w_gld_tf ?_
            | with_reducible refine w_gld_ft ?_
            | with_reducible refine w_gldN_tt ?_
            | with_reducible refine w_gldN_ff ?_
            | with_reducible refine w_gldN_tf ?_
            | with_reducible refine w_gldN_ft ?_
            | with_reducible refine w_gB_tt ?_
            | with_reducible refine w_gB_ff ?_
            | with_reducible refine w_bind un_not ?_
            | with_reducible refine w_cond_t ?_
            | with_reducible refine w_cond_f ?_
            | with_reducible refine w_bind gV_u ?_
            | with_reducible refine w_bind gB_u ?_
            | with_reducible refine w_gld_u ?_)
          exact next l[i] H2 h2.to
        | false =>
          repeat (first
            | with_reducible refine w_bind (pick_t _ _) ?_
            | with_reducible refine w_bind (pick_f _ _) ?_
            | with_reducible refine w_bind gV_tt ?_
            | with_reducible refine w_bind gV_ff ?_
            | with_reducible refine w_bind gV_tf ?_
            | with_reducible refine w_bind gV_ft ?_
            | with_reducible refine w_bind gB_tf ?_
            | with_reducible refine w_bind gB_ft ?_
            | with_reducible refine w_gE_tf ?_
            | with_reducible refine w_gE_ft ?_
            | with_reducible refine w_gE_tt ?_
            | with_reducible refine w_gE_ff ?_
            | with_reducible refine w_onK_tf ?_
            | with_reducible refine w_onK_ft ?_
            | with_reducible refine w_onK_tt ?_
            | with_reducible refine w_onK_ff ?_
            | with_reducible refine w_gld_tt ?_
            | with_reducible refine w_gld_ff ?_
            | with_reducible refine w_gld_tf ?_
            | with_reducible refine w_gld_ft ?_
            | with_reducible refine w_gldN_tt ?_
            | with_reducible refine w_gldN_ff ?_
            | with_reducible refine w_gldN_tf ?_
            | with_reducible refine w_gldN_ft ?_
            | with_reducible refine w_gB_tt ?_
            | with_reducible refine w_gB_ff ?_
            | with_reducible refine w_bind un_not ?_
            | with_reducible refine w_cond_t ?_
            | with_reducible refine w_cond_f ?_
            | with_reducible refine w_bind gV_u ?_
            | with_reducible refine w_bind gB_u ?_
            | with_reducible refine w_gld_u ?_)
          rw [Bool.not_false]
          repeat (first
            | with_reducible refine w_bind (pick_t _ _) ?_
            | with_reducible refine w_bind (pick_f _ _) ?_
            | with_reducible refine w_bind gV_tt ?_
            | with_reducible refine w_bind gV_ff ?_
            | with_reducible refine w_bind gV_tf ?_
            | with_reducible refine w_bind gV_ft ?_
            | with_reducible refine w_bind gB_tf ?_
            | with_reducible refine w_bind gB_ft ?_
            | with_reducible refine w_gE_tf ?_
            | with_reducible refine w_gE_ft ?_
            | with_reducible refine w_gE_tt ?_
            | with_reducible refine w_gE_ff ?_
            | with_reducible refine w_onK_tf ?_
            | with_reducible refine w_onK_ft ?_
            | with_reducible refine w_onK_tt ?_
            | with_reducible refine w_onK_ff ?_
            | with_reducible refine w_gld_tt ?_
            | with_reducible refine w_gld_ff ?_
            | with_reducible refine w_gld_tf ?_
            | with_reducible refine w_gld_ft ?_
            | with_reducible refine w_gldN_tt ?_
            | with_reducible refine w_gldN_ff ?_
            | with_reducible refine w_gldN_tf ?_
            | with_reducible refine w_gldN_ft ?_
            | with_reducible refine w_gB_tt ?_
            | with_reducible refine w_gB_ff ?_
            | with_reducible refine w_bind un_not ?_
            | with_reducible refine w_cond_t ?_
            | with_reducible refine w_cond_f ?_
            | with_reducible refine w_bind gV_u ?_
            | with_reducible refine w_bind gB_u ?_
            | with_reducible refine w_gld_u ?_)
          refine w_LdN h2 ?_
          refine w_call (by assumption) (near_law l[i]) fun e' H3 h3 => ?_
          refine w_St h3 rfl rfl fun H4 h4 => ?_
          exact next e' H4 h4.to
    refine loop (min l.length 60) 0 _ [] H0 (by omega) rfl ?_
    exact ts_nil 5 Ev.cells (fix_holds H0)
  obtain ⟨v', H', e, rfl⟩ := key
  exact ⟨H', e⟩
end

/-! ### One look, one swap that is not done -/
theorem xor_one {cl : TCls} {u : Int} (h0 : -9223372036854775808 ≤ u) (h1 : u < 9223372036854775808) : ∃ u', pBin cl .xor (vi u) (vi 1) = some (vi u') ∧ u ≠ u' := by
  refine ⟨_, rfl, fun e => ?_⟩
  have e : u = IntKind.wrap .i64 (((BitVec.ofInt 64 u ^^^ BitVec.ofInt 64 1).toNat : Nat) : Int) := e
  generalize hz : BitVec.ofInt 64 u ^^^ BitVec.ofInt 64 1 = z at e
  have hzlt := z.isLt
  have hw : IntKind.wrap .i64 ((z.toNat : Nat) : Int) % 18446744073709551616 = (z.toNat : Int) := by
    simp [IntKind.wrap, IntKind.bits, IntKind.signed]
    split <;> omega
  rw [← e] at hw
  have hx : (BitVec.ofInt 64 u).toNat = z.toNat := by
    rw [BitVec.toNat_ofInt]
    omega
  have hxz : BitVec.ofInt 64 u = z := BitVec.eq_of_toNat_eq hx
  rw [hxz] at hz
  have h2 : z ^^^ (z ^^^ BitVec.ofInt 64 1) = z ^^^ z := by rw [hz]
  rw [← BitVec.xor_assoc, BitVec.xor_self, BitVec.zero_xor] at h2
  revert h2
  decide
section
variable {u w : Int} {x y : Loc}
theorem t1 (hu : u ≠ w) (hx : x.1 = 11) : triesB [⟨u, 1, x⟩, ⟨w, 3, x⟩, ⟨u, 4, x⟩] = true := by
  have : w ≠ u := fun h => hu h.symm
  simp [triesB, triesFrom, tried, back, hx, this]
theorem t2 (hx : x.1 = 11) : triesB [⟨u, 1, x⟩, ⟨u, 4, x⟩] = false := by simp [triesB, triesFrom, tried, back, hx]
theorem t3 (hx : x.1 = 11) : triesB [⟨u, 1, x⟩, ⟨u, 3, x⟩, ⟨u, 4, x⟩] = false := by simp [triesB, triesFrom, tried, back, hx]
theorem t4 (hxy : x ≠ y) (hx : x.1 = 11) : triesB [⟨u, 1, x⟩, ⟨w, 3, y⟩, ⟨u, 4, x⟩] = false := by
  have : y ≠ x := fun h => hxy h.symm
  simp [triesB, triesFrom, tried, back, hx, this]
theorem t5 (hx : x.1 = 11) : triesB [⟨w, 3, x⟩, ⟨u, 1, x⟩, ⟨u, 4, x⟩] = false := by simp [triesB, triesFrom, tried, back, hx]
theorem t6 : triesB [⟨u, 4, x⟩, ⟨w, 3, x⟩] = true := by simp [triesB, triesFrom, tried, back]
theorem t7 (hu : u ≠ w) (hx : x.1 = 11) : triesB [⟨u, 1, x⟩, ⟨w, 3, x⟩, ⟨u, 4, x⟩, ⟨u, 1, x⟩, ⟨u, 4, x⟩] = false := by
  have : w ≠ u := fun h => hu h.symm
  simp [triesB, triesFrom, tried, back, hx, this]
end
theorem row_of {P : SP} {H : AH} {b : Nat} {l : List Ev} {cs : List Value} (h : Holds (blk b (.cells false cs) * P) H) (e : cs = l.flatMap Ev.cells) : Holds (ts 5 Ev.cells (vs b l.length 5) l * P) H := ts_back (by rw [← e]; exact h)
theorem one_tail {H0 : AH} (hT : H0.get 0 = some (.cells true tabC)) {u w a b : Int} (hu : u ≠ w) (ha : a ≠ b) (x8 : Value) {H : AH} (h : Holds (fix H0) H) : wp (l29_PaceOne_k2 (vi u) (vi w) (vi a) (vi b) x8 H) fun v' _ => v' = vb true := by
  haveI := args_tab hT
  have hab : ((11, a, 0) : Loc) ≠ (11, b, 0) := fun e => ha (by simpa using e)
  refine wp_eq (l29_PaceOne_k2_eq _ _ _ _ _ H) ?_
  repeat (first
    | with_reducible refine w_newC (by assumption) fun _ _ _ => ?_
    | with_reducible refine w_new (by assumption) fun _ _ _ => ?_
    | with_reducible refine w_map (by assumption) fun _ _ _ => ?_
    | with_reducible refine w_S ?_
    | with_reducible refine w_R (by assumption) fun _ _ _ => ?_
    | refine w_LdN (by assumption) ?_
    | refine w_ld (by assumption) end_nf rfl ?_
    | refine w_ld (by assumption) end_f0 rfl ?_
    | refine w_ldN (by assumption) end_nf ?_
    | refine w_ldN (by assumption) end_f0 ?_
    | with_reducible refine w_ad end_nf ?_
    | with_reducible refine w_ad end_f0 ?_
    | refine w_Ld1 (by assumption) rfl ?_
    | refine w_st (by assumption) end_nf rfl rfl fun _ _ => ?_
    | refine w_st (by assumption) end_f0 rfl rfl fun _ _ => ?_
    | refine w_St (by assumption) rfl rfl fun _ _ => ?_
    | refine w_eqK_rfl ?_
    | refine w_eq1 (by assumption) (by assumption) rfl ?_
    | refine w_eqN (by assumption) (by assumption) rfl ?_
    | refine w_len ?_)
  refine w_awake (by assumption) fun _ _ => ?_
  repeat (first
    | with_reducible refine w_bind (pick_t _ _) ?_
    | with_reducible refine w_bind (pick_f _ _) ?_
    | with_reducible refine w_bind gV_tt ?_
    | with_reducible refine w_bind gV_ff ?_
    | with_reducible refine w_bind gV_tf ?_
    | with_reducible refine w_bind gV_ft ?_
    | with_reducible refine w_bind gB_tf ?_
    | with_reducible refine w_bind gB_ft ?_
    | with_reducible refine w_gE_tf ?_
    | with_reducible refine w_gE_ft ?_
    | with_reducible refine w_gE_tt ?_
    | with_reducible refine w_gE_ff ?_
    | with_reducible refine w_onK_tf ?_
    | with_reducible refine w_onK_ft ?_
    | with_reducible refine w_onK_tt ?_
    | with_reducible refine w_onK_ff ?_
    | with_reducible refine w_gld_tt ?_
    | with_reducible refine w_gld_ff ?_
    | with_reducible refine w_gld_tf ?_
    | with_reducible refine w_gld_ft ?_
    | with_reducible refine w_gldN_tt ?_
    | with_reducible refine w_gldN_ff ?_
    | with_reducible refine w_gldN_tf ?_
    | with_reducible refine w_gldN_ft ?_
    | with_reducible refine w_gB_tt ?_
    | with_reducible refine w_gB_ff ?_
    | with_reducible refine w_bind un_not ?_
    | with_reducible refine w_cond_t ?_
    | with_reducible refine w_cond_f ?_
    | with_reducible refine w_bind gV_u ?_
    | with_reducible refine w_bind gB_u ?_
    | with_reducible refine w_gld_u ?_)
  repeat (first
    | with_reducible refine w_newC (by assumption) fun _ _ _ => ?_
    | with_reducible refine w_new (by assumption) fun _ _ _ => ?_
    | with_reducible refine w_map (by assumption) fun _ _ _ => ?_
    | with_reducible refine w_S ?_
    | with_reducible refine w_R (by assumption) fun _ _ _ => ?_
    | refine w_LdN (by assumption) ?_
    | refine w_ld (by assumption) end_nf rfl ?_
    | refine w_ld (by assumption) end_f0 rfl ?_
    | refine w_ldN (by assumption) end_nf ?_
    | refine w_ldN (by assumption) end_f0 ?_
    | with_reducible refine w_ad end_nf ?_
    | with_reducible refine w_ad end_f0 ?_
    | refine w_Ld1 (by assumption) rfl ?_
    | refine w_st (by assumption) end_nf rfl rfl fun _ _ => ?_
    | refine w_st (by assumption) end_f0 rfl rfl fun _ _ => ?_
    | refine w_St (by assumption) rfl rfl fun _ _ => ?_
    | refine w_eqK_rfl ?_
    | refine w_eq1 (by assumption) (by assumption) rfl ?_
    | refine w_eqN (by assumption) (by assumption) rfl ?_
    | refine w_len ?_)
  repeat (first
    | with_reducible refine w_bind (pick_t _ _) ?_
    | with_reducible refine w_bind (pick_f _ _) ?_
    | with_reducible refine w_bind gV_tt ?_
    | with_reducible refine w_bind gV_ff ?_
    | with_reducible refine w_bind gV_tf ?_
    | with_reducible refine w_bind gV_ft ?_
    | with_reducible refine w_bind gB_tf ?_
    | with_reducible refine w_bind gB_ft ?_
    | with_reducible refine w_gE_tf ?_
    | with_reducible refine w_gE_ft ?_
    | with_reducible refine w_gE_tt ?_
    | with_reducible refine w_gE_ff ?_
    | with_reducible refine w_onK_tf ?_
    | with_reducible refine w_onK_ft ?_
    | with_reducible refine w_onK_tt ?_
    | with_reducible refine w_onK_ff ?_
    | with_reducible refine w_gld_tt ?_
    | with_reducible refine w_gld_ff ?_
    | with_reducible refine w_gld_tf ?_
    | with_reducible refine w_gld_ft ?_
    | with_reducible refine w_gldN_tt ?_
    | with_reducible refine w_gldN_ff ?_
    | with_reducible refine w_gldN_tf ?_
    | with_reducible refine w_gldN_ft ?_
    | with_reducible refine w_gB_tt ?_
    | with_reducible refine w_gB_ff ?_
    | with_reducible refine w_bind un_not ?_
    | with_reducible refine w_cond_t ?_
    | with_reducible refine w_cond_f ?_
    | with_reducible refine w_bind gV_u ?_
    | with_reducible refine w_bind gB_u ?_
    | with_reducible refine w_gld_u ?_)
  repeat (first
    | with_reducible refine w_newC (by assumption) fun _ _ _ => ?_
    | with_reducible refine w_new (by assumption) fun _ _ _ => ?_
    | with_reducible refine w_map (by assumption) fun _ _ _ => ?_
    | with_reducible refine w_S ?_
    | with_reducible refine w_R (by assumption) fun _ _ _ => ?_
    | refine w_LdN (by assumption) ?_
    | refine w_ld (by assumption) end_nf rfl ?_
    | refine w_ld (by assumption) end_f0 rfl ?_
    | refine w_ldN (by assumption) end_nf ?_
    | refine w_ldN (by assumption) end_f0 ?_
    | with_reducible refine w_ad end_nf ?_
    | with_reducible refine w_ad end_f0 ?_
    | refine w_Ld1 (by assumption) rfl ?_
    | refine w_st (by assumption) end_nf rfl rfl fun _ _ => ?_
    | refine w_st (by assumption) end_f0 rfl rfl fun _ _ => ?_
    | refine w_St (by assumption) rfl rfl fun _ _ => ?_
    | refine w_eqK_rfl ?_
    | refine w_eq1 (by assumption) (by assumption) rfl ?_
    | refine w_eqN (by assumption) (by assumption) rfl ?_
    | refine w_len ?_)
  repeat (first
    | with_reducible refine w_bind (pick_t _ _) ?_
    | with_reducible refine w_bind (pick_f _ _) ?_
    | with_reducible refine w_bind gV_tt ?_
    | with_reducible refine w_bind gV_ff ?_
    | with_reducible refine w_bind gV_tf ?_
    | with_reducible refine w_bind gV_ft ?_
    | with_reducible refine w_bind gB_tf ?_
    | with_reducible refine w_bind gB_ft ?_
    | with_reducible refine w_gE_tf ?_
    | with_reducible refine w_gE_ft ?_
    | with_reducible refine w_gE_tt ?_
    | with_reducible refine w_gE_ff ?_
    | with_reducible refine w_onK_tf ?_
    | with_reducible refine w_onK_ft ?_
    | with_reducible refine w_onK_tt ?_
    | with_reducible refine w_onK_ff ?_
    | with_reducible refine w_gld_tt ?_
    | with_reducible refine w_gld_ff ?_
    | with_reducible refine w_gld_tf ?_
    | with_reducible refine w_gld_ft ?_
    | with_reducible refine w_gldN_tt ?_
    | with_reducible refine w_gldN_ff ?_
    | with_reducible refine w_gldN_tf ?_
    | with_reducible refine w_gldN_ft ?_
    | with_reducible refine w_gB_tt ?_
    | with_reducible refine w_gB_ff ?_
    | with_reducible refine w_bind un_not ?_
    | with_reducible refine w_cond_t ?_
    | with_reducible refine w_cond_f ?_
    | with_reducible refine w_bind gV_u ?_
    | with_reducible refine w_bind gB_u ?_
    | with_reducible refine w_gld_u ?_)
  repeat (first
    | with_reducible refine w_newC (by assumption) fun _ _ _ => ?_
    | with_reducible refine w_new (by assumption) fun _ _ _ => ?_
    | with_reducible refine w_map (by assumption) fun _ _ _ => ?_
    | with_reducible refine w_S ?_
    | with_reducible refine w_R (by assumption) fun _ _ _ => ?_
    | refine w_LdN (by assumption) ?_
    | refine w_ld (by assumption) end_nf rfl ?_
    | refine w_ld (by assumption) end_f0 rfl ?_
    | refine w_ldN (by assumption) end_nf ?_
    | refine w_ldN (by assumption) end_f0 ?_
    | with_reducible refine w_ad end_nf ?_
    | with_reducible refine w_ad end_f0 ?_
    | refine w_Ld1 (by assumption) rfl ?_
    | refine w_st (by assumption) end_nf rfl rfl fun _ _ => ?_
    | refine w_st (by assumption) end_f0 rfl rfl fun _ _ => ?_
    | refine w_St (by assumption) rfl rfl fun _ _ => ?_
    | refine w_eqK_rfl ?_
    | refine w_eq1 (by assumption) (by assumption) rfl ?_
    | refine w_eqN (by assumption) (by assumption) rfl ?_
    | refine w_len ?_)
  repeat (first
    | with_reducible refine w_bind (pick_t _ _) ?_
    | with_reducible refine w_bind (pick_f _ _) ?_
    | with_reducible refine w_bind gV_tt ?_
    | with_reducible refine w_bind gV_ff ?_
    | with_reducible refine w_bind gV_tf ?_
    | with_reducible refine w_bind gV_ft ?_
    | with_reducible refine w_bind gB_tf ?_
    | with_reducible refine w_bind gB_ft ?_
    | with_reducible refine w_gE_tf ?_
    | with_reducible refine w_gE_ft ?_
    | with_reducible refine w_gE_tt ?_
    | with_reducible refine w_gE_ff ?_
    | with_reducible refine w_onK_tf ?_
    | with_reducible refine w_onK_ft ?_
    | with_reducible refine w_onK_tt ?_
    | with_reducible refine w_onK_ff ?_
    | with_reducible refine w_gld_tt ?_
    | with_reducible refine w_gld_ff ?_
    | with_reducible refine w_gld_tf ?_
    | with_reducible refine w_gld_ft ?_
    | with_reducible refine w_gldN_tt ?_
    | with_reducible refine w_gldN_ff ?_
    | with_reducible refine w_gldN_tf ?_
    | with_reducible refine w_gldN_ft ?_
    | with_reducible refine w_gB_tt ?_
    | with_reducible refine w_gB_ff ?_
    | with_reducible refine w_bind un_not ?_
    | with_reducible refine w_cond_t ?_
    | with_reducible refine w_cond_f ?_
    | with_reducible refine w_bind gV_u ?_
    | with_reducible refine w_bind gB_u ?_
    | with_reducible refine w_gld_u ?_)
  refine w_mkRB (by assumption) rfl fun b1 H1 h1 => ?_
  repeat (first
    | with_reducible refine w_bind (pick_t _ _) ?_
    | with_reducible refine w_bind (pick_f _ _) ?_
    | with_reducible refine w_bind gV_tt ?_
    | with_reducible refine w_bind gV_ff ?_
    | with_reducible refine w_bind gV_tf ?_
    | with_reducible refine w_bind gV_ft ?_
    | with_reducible refine w_bind gB_tf ?_
    | with_reducible refine w_bind gB_ft ?_
    | with_reducible refine w_gE_tf ?_
    | with_reducible refine w_gE_ft ?_
    | with_reducible refine w_gE_tt ?_
    | with_reducible refine w_gE_ff ?_
    | with_reducible refine w_onK_tf ?_
    | with_reducible refine w_onK_ft ?_
    | with_reducible refine w_onK_tt ?_
    | with_reducible refine w_onK_ff ?_
    | with_reducible refine w_gld_tt ?_
    | with_reducible refine w_gld_ff ?_
    | with_reducible refine w_gld_tf ?_
    | with_reducible refine w_gld_ft ?_
    | with_reducible refine w_gldN_tt ?_
    | with_reducible refine w_gldN_ff ?_
    | with_reducible refine w_gldN_tf ?_
    | with_reducible refine w_gldN_ft ?_
    | with_reducible refine w_gB_tt ?_
    | with_reducible refine w_gB_ff ?_
    | with_reducible refine w_bind un_not ?_
    | with_reducible refine w_cond_t ?_
    | with_reducible refine w_cond_f ?_
    | with_reducible refine w_bind gV_u ?_
    | with_reducible refine w_bind gB_u ?_
    | with_reducible refine w_gld_u ?_)
  have r1 := row_of (l := [⟨u, 1, (11, a, 0)⟩, ⟨w, 3, (11, a, 0)⟩, ⟨u, 4, (11, a, 0)⟩]) h1 rfl
  refine w_ro r1 (pace_tries (s := vs b1 3 5) (l := [⟨u, 1, (11, a, 0)⟩, ⟨w, 3, (11, a, 0)⟩, ⟨u, 4, (11, a, 0)⟩]) (by simp)) fun K1 k1 => ?_
  rw [t1 hu rfl]
  repeat (first
    | with_reducible refine w_bind (pick_t _ _) ?_
    | with_reducible refine w_bind (pick_f _ _) ?_
    | with_reducible refine w_bind gV_tt ?_
    | with_reducible refine w_bind gV_ff ?_
    | with_reducible refine w_bind gV_tf ?_
    | with_reducible refine w_bind gV_ft ?_
    | with_reducible refine w_bind gB_tf ?_
    | with_reducible refine w_bind gB_ft ?_
    | with_reducible refine w_gE_tf ?_
    | with_reducible refine w_gE_ft ?_
    | with_reducible refine w_gE_tt ?_
    | with_reducible refine w_gE_ff ?_
    | with_reducible refine w_onK_tf ?_
    | with_reducible refine w_onK_ft ?_
    | with_reducible refine w_onK_tt ?_
    | with_reducible refine w_onK_ff ?_
    | with_reducible refine w_gld_tt ?_
    | with_reducible refine w_gld_ff ?_
    | with_reducible refine w_gld_tf ?_
    | with_reducible refine w_gld_ft ?_
    | with_reducible refine w_gldN_tt ?_
    | with_reducible refine w_gldN_ff ?_
    | with_reducible refine w_gldN_tf ?_
    | with_reducible refine w_gldN_ft ?_
    | with_reducible refine w_gB_tt ?_
    | with_reducible refine w_gB_ff ?_
    | with_reducible refine w_bind un_not ?_
    | with_reducible refine w_cond_t ?_
    | with_reducible refine w_cond_f ?_
    | with_reducible refine w_bind gV_u ?_
    | with_reducible refine w_bind gB_u ?_
    | with_reducible refine w_gld_u ?_)
  repeat (first
    | with_reducible refine w_bind (pick_t _ _) ?_
    | with_reducible refine w_bind (pick_f _ _) ?_
    | with_reducible refine w_bind gV_tt ?_
    | with_reducible refine w_bind gV_ff ?_
    | with_reducible refine w_bind gV_tf ?_
    | with_reducible refine w_bind gV_ft ?_
    | with_reducible refine w_bind gB_tf ?_
    | with_reducible refine w_bind gB_ft ?_
    | with_reducible refine w_gE_tf ?_
    | with_reducible refine w_gE_ft ?_
    | with_reducible refine w_gE_tt ?_
    | with_reducible refine w_gE_ff ?_
    | with_reducible refine w_onK_tf ?_
    | with_reducible refine w_onK_ft ?_
    | with_reducible refine w_onK_tt ?_
    | with_reducible refine w_onK_ff ?_
    | with_reducible refine w_gld_tt ?_
    | with_reducible refine w_gld_ff ?_
    | with_reducible refine w_gld_tf ?_
    | with_reducible refine w_gld_ft ?_
    | with_reducible refine w_gldN_tt ?_
    | with_reducible refine w_gldN_ff ?_
    | with_reducible refine w_gldN_tf ?_
    | with_reducible refine w_gldN_ft ?_
    | with_reducible refine w_gB_tt ?_
    | with_reducible refine w_gB_ff ?_
    | with_reducible refine w_bind un_not ?_
    | with_reducible refine w_cond_t ?_
    | with_reducible refine w_cond_f ?_
    | with_reducible refine w_bind gV_u ?_
    | with_reducible refine w_bind gB_u ?_
    | with_reducible refine w_gld_u ?_)
  repeat (first
    | with_reducible refine w_newC (by assumption) fun _ _ _ => ?_
    | with_reducible refine w_new (by assumption) fun _ _ _ => ?_
    | with_reducible refine w_map (by assumption) fun _ _ _ => ?_
    | with_reducible refine w_S ?_
    | with_reducible refine w_R (by assumption) fun _ _ _ => ?_
    | refine w_LdN (by assumption) ?_
    | refine w_ld (by assumption) end_nf rfl ?_
    | refine w_ld (by assumption) end_f0 rfl ?_
    | refine w_ldN (by assumption) end_nf ?_
    | refine w_ldN (by assumption) end_f0 ?_
    | with_reducible refine w_ad end_nf ?_
    | with_reducible refine w_ad end_f0 ?_
    | refine w_Ld1 (by assumption) rfl ?_
    | refine w_st (by assumption) end_nf rfl rfl fun _ _ => ?_
    | refine w_st (by assumption) end_f0 rfl rfl fun _ _ => ?_
    | refine w_St (by assumption) rfl rfl fun _ _ => ?_
    | refine w_eqK_rfl ?_
    | refine w_eq1 (by assumption) (by assumption) rfl ?_
    | refine w_eqN (by assumption) (by assumption) rfl ?_
    | refine w_len ?_)
  repeat (first
    | with_reducible refine w_bind (pick_t _ _) ?_
    | with_reducible refine w_bind (pick_f _ _) ?_
    | with_reducible refine w_bind gV_tt ?_
    | with_reducible refine w_bind gV_ff ?_
    | with_reducible refine w_bind gV_tf ?_
    | with_reducible refine w_bind gV_ft ?_
    | with_reducible refine w_bind gB_tf ?_
    | with_reducible refine w_bind gB_ft ?_
    | with_reducible refine w_gE_tf ?_
    | with_reducible refine w_gE_ft ?_
    | with_reducible refine w_gE_tt ?_
    | with_reducible refine w_gE_ff ?_
    | with_reducible refine w_onK_tf ?_
    | with_reducible refine w_onK_ft ?_
    | with_reducible refine w_onK_tt ?_
    | with_reducible refine w_onK_ff ?_
    | with_reducible refine w_gld_tt ?_
    | with_reducible refine w_gld_ff ?_
    | with_reducible refine w_gld_tf ?_
    | with_reducible refine w_gld_ft ?_
    | with_reducible refine w_gldN_tt ?_
    | with_reducible refine w_gldN_ff ?_
    | with_reducible refine w_gldN_tf ?_
    | with_reducible refine w_gldN_ft ?_
    | with_reducible refine w_gB_tt ?_
    | with_reducible refine w_gB_ff ?_
    | with_reducible refine w_bind un_not ?_
    | with_reducible refine w_cond_t ?_
    | with_reducible refine w_cond_f ?_
    | with_reducible refine w_bind gV_u ?_
    | with_reducible refine w_bind gB_u ?_
    | with_reducible refine w_gld_u ?_)
  repeat (first
    | with_reducible refine w_newC (by assumption) fun _ _ _ => ?_
    | with_reducible refine w_new (by assumption) fun _ _ _ => ?_
    | with_reducible refine w_map (by assumption) fun _ _ _ => ?_
    | with_reducible refine w_S ?_
    | with_reducible refine w_R (by assumption) fun _ _ _ => ?_
    | refine w_LdN (by assumption) ?_
    | refine w_ld (by assumption) end_nf rfl ?_
    | refine w_ld (by assumption) end_f0 rfl ?_
    | refine w_ldN (by assumption) end_nf ?_
    | refine w_ldN (by assumption) end_f0 ?_
    | with_reducible refine w_ad end_nf ?_
    | with_reducible refine w_ad end_f0 ?_
    | refine w_Ld1 (by assumption) rfl ?_
    | refine w_st (by assumption) end_nf rfl rfl fun _ _ => ?_
    | refine w_st (by assumption) end_f0 rfl rfl fun _ _ => ?_
    | refine w_St (by assumption) rfl rfl fun _ _ => ?_
    | refine w_eqK_rfl ?_
    | refine w_eq1 (by assumption) (by assumption) rfl ?_
    | refine w_eqN (by assumption) (by assumption) rfl ?_
    | refine w_len ?_)
  repeat (first
    | with_reducible refine w_bind (pick_t _ _) ?_
    | with_reducible refine w_bind (pick_f _ _) ?_
    | with_reducible refine w_bind gV_tt ?_
    | with_reducible refine w_bind gV_ff ?_
    | with_reducible refine w_bind gV_tf ?_
    | with_reducible refine w_bind gV_ft ?_
    | with_reducible refine w_bind gB_tf ?_
    | with_reducible refine w_bind gB_ft ?_
    | with_reducible refine w_gE_tf ?_
    | with_reducible refine w_gE_ft ?_
    | with_reducible refine w_gE_tt ?_
    | with_reducible refine w_gE_ff ?_
    | with_reducible refine w_onK_tf ?_
    | with_reducible refine w_onK_ft ?_
    | with_reducible refine w_onK_tt ?_
    | with_reducible refine w_onK_ff ?_
    | with_reducible refine w_gld_tt ?_
    | with_reducible refine w_gld_ff ?_
    | with_reducible refine w_gld_tf ?_
    | with_reducible refine w_gld_ft ?_
    | with_reducible refine w_gldN_tt ?_
    | with_reducible refine w_gldN_ff ?_
    | with_reducible refine w_gldN_tf ?_
    | with_reducible refine w_gldN_ft ?_
    | with_reducible refine w_gB_tt ?_
    | with_reducible refine w_gB_ff ?_
    | with_reducible refine w_bind un_not ?_
    | with_reducible refine w_cond_t ?_
    | with_reducible refine w_cond_f ?_
    | with_reducible refine w_bind gV_u ?_
    | with_reducible refine w_bind gB_u ?_
    | with_reducible refine w_gld_u ?_)
  refine w_mkRB (by assumption) rfl fun b2 H2 h2 => ?_
  repeat (first
    | with_reducible refine w_bind (pick_t _ _) ?_
    | with_reducible refine w_bind (pick_f _ _) ?_
    | with_reducible refine w_bind gV_tt ?_
    | with_reducible refine w_bind gV_ff ?_
    | with_reducible refine w_bind gV_tf ?_
    | with_reducible refine w_bind gV_ft ?_
    | with_reducible refine w_bind gB_tf ?_
    | with_reducible refine w_bind gB_ft ?_
    | with_reducible refine w_gE_tf ?_
    | with_reducible refine w_gE_ft ?_
    | with_reducible refine w_gE_tt ?_
    | with_reducible refine w_gE_ff ?_
    | with_reducible refine w_onK_tf ?_
    | with_reducible refine w_onK_ft ?_
    | with_reducible refine w_onK_tt ?_
    | with_reducible refine w_onK_ff ?_
    | with_reducible refine w_gld_tt ?_
    | with_reducible refine w_gld_ff ?_
    | with_reducible refine w_gld_tf ?_
    | with_reducible refine w_gld_ft ?_
    | with_reducible refine w_gldN_tt ?_
    | with_reducible refine w_gldN_ff ?_
    | with_reducible refine w_gldN_tf ?_
    | with_reducible refine w_gldN_ft ?_
    | with_reducible refine w_gB_tt ?_
    | with_reducible refine w_gB_ff ?_
    | with_reducible refine w_bind un_not ?_
    | with_reducible refine w_cond_t ?_
    | with_reducible refine w_cond_f ?_
    | with_reducible refine w_bind gV_u ?_
    | with_reducible refine w_bind gB_u ?_
    | with_reducible refine w_gld_u ?_)
  have r2 := row_of (l := [⟨u, 1, (11, a, 0)⟩, ⟨u, 4, (11, a, 0)⟩]) h2 rfl
  refine w_ro r2 (pace_tries (s := vs b2 2 5) (l := [⟨u, 1, (11, a, 0)⟩, ⟨u, 4, (11, a, 0)⟩]) (by simp)) fun K2 k2 => ?_
  rw [t2 rfl]
  repeat (first
    | with_reducible refine w_bind (pick_t _ _) ?_
    | with_reducible refine w_bind (pick_f _ _) ?_
    | with_reducible refine w_bind gV_tt ?_
    | with_reducible refine w_bind gV_ff ?_
    | with_reducible refine w_bind gV_tf ?_
    | with_reducible refine w_bind gV_ft ?_
    | with_reducible refine w_bind gB_tf ?_
    | with_reducible refine w_bind gB_ft ?_
    | with_reducible refine w_gE_tf ?_
    | with_reducible refine w_gE_ft ?_
    | with_reducible refine w_gE_tt ?_
    | with_reducible refine w_gE_ff ?_
    | with_reducible refine w_onK_tf ?_
    | with_reducible refine w_onK_ft ?_
    | with_reducible refine w_onK_tt ?_
    | with_reducible refine w_onK_ff ?_
    | with_reducible refine w_gld_tt ?_
    | with_reducible refine w_gld_ff ?_
    | with_reducible refine w_gld_tf ?_
    | with_reducible refine w_gld_ft ?_
    | with_reducible refine w_gldN_tt ?_
    | with_reducible refine w_gldN_ff ?_
    | with_reducible refine w_gldN_tf ?_
    | with_reducible refine w_gldN_ft ?_
    | with_reducible refine w_gB_tt ?_
    | with_reducible refine w_gB_ff ?_
    | with_reducible refine w_bind un_not ?_
    | with_reducible refine w_cond_t ?_
    | with_reducible refine w_cond_f ?_
    | with_reducible refine w_bind gV_u ?_
    | with_reducible refine w_bind gB_u ?_
    | with_reducible refine w_gld_u ?_)
  rw [Bool.not_false]
  repeat (first
    | with_reducible refine w_bind (pick_t _ _) ?_
    | with_reducible refine w_bind (pick_f _ _) ?_
    | with_reducible refine w_bind gV_tt ?_
    | with_reducible refine w_bind gV_ff ?_
    | with_reducible refine w_bind gV_tf ?_
    | with_reducible refine w_bind gV_ft ?_
    | with_reducible refine w_bind gB_tf ?_
    | with_reducible refine w_bind gB_ft ?_
    | with_reducible refine w_gE_tf ?_
    | with_reducible refine w_gE_ft ?_
    | with_reducible refine w_gE_tt ?_
    | with_reducible refine w_gE_ff ?_
    | with_reducible refine w_onK_tf ?_
    | with_reducible refine w_onK_ft ?_
    | with_reducible refine w_onK_tt ?_
    | with_reducible refine w_onK_ff ?_
    | with_reducible refine w_gld_tt ?_
    | with_reducible refine w_gld_ff ?_
    | with_reducible refine w_gld_tf ?_
    | with_reducible refine w_gld_ft ?_
    | with_reducible refine w_gldN_tt ?_
    | with_reducible refine w_gldN_ff ?_
    | with_reducible refine w_gldN_tf ?_
    | with_reducible refine w_gldN_ft ?_
    | with_reducible refine w_gB_tt ?_
    | with_reducible refine w_gB_ff ?_
    | with_reducible refine w_bind un_not ?_
    | with_reducible refine w_cond_t ?_
    | with_reducible refine w_cond_f ?_
    | with_reducible refine w_bind gV_u ?_
    | with_reducible refine w_bind gB_u ?_
    | with_reducible refine w_gld_u ?_)
  repeat (first
    | with_reducible refine w_bind (pick_t _ _) ?_
    | with_reducible refine w_bind (pick_f _ _) ?_
    | with_reducible refine w_bind gV_tt ?_
    | with_reducible refine w_bind gV_ff ?_
    | with_reducible refine w_bind gV_tf ?_
    | with_reducible refine w_bind gV_ft ?_
    | with_reducible refine w_bind gB_tf ?_
    | with_reducible refine w_bind gB_ft ?_
    | with_reducible refine w_gE_tf ?_
    | with_reducible refine w_gE_ft ?_
    | with_reducible refine w_gE_tt ?_
    | with_reducible refine w_gE_ff ?_
    | with_reducible refine w_onK_tf ?_
    | with_reducible refine w_onK_ft ?_
    | with_reducible refine w_onK_tt ?_
    | with_reducible refine w_onK_ff ?_
    | with_reducible refine w_gld_tt ?_
    | with_reducible refine w_gld_ff ?_
    | with_reducible refine w_gld_tf ?_
    | with_reducible refine w_gld_ft ?_
    | with_reducible refine w_gldN_tt ?_
    | with_reducible refine w_gldN_ff ?_
    | with_reducible refine w_gldN_tf ?_
    | with_reducible refine w_gldN_ft ?_
    | with_reducible refine w_gB_tt ?_
    | with_reducible refine w_gB_ff ?_
    | with_reducible refine w_bind un_not ?_
    | with_reducible refine w_cond_t ?_
    | with_reducible refine w_cond_f ?_
    | with_reducible refine w_bind gV_u ?_
    | with_reducible refine w_bind gB_u ?_
    | with_reducible refine w_gld_u ?_)
  repeat (first
    | with_reducible refine w_newC (by assumption) fun _ _ _ => ?_
    | with_reducible refine w_new (by assumption) fun _ _ _ => ?_
    | with_reducible refine w_map (by assumption) fun _ _ _ => ?_
    | with_reducible refine w_S ?_
    | with_reducible refine w_R (by assumption) fun _ _ _ => ?_
    | refine w_LdN (by assumption) ?_
    | refine w_ld (by assumption) end_nf rfl ?_
    | refine w_ld (by assumption) end_f0 rfl ?_
    | refine w_ldN (by assumption) end_nf ?_
    | refine w_ldN (by assumption) end_f0 ?_
    | with_reducible refine w_ad end_nf ?_
    | with_reducible refine w_ad end_f0 ?_
    | refine w_Ld1 (by assumption) rfl ?_
    | refine w_st (by assumption) end_nf rfl rfl fun _ _ => ?_
    | refine w_st (by assumption) end_f0 rfl rfl fun _ _ => ?_
    | refine w_St (by assumption) rfl rfl fun _ _ => ?_
    | refine w_eqK_rfl ?_
    | refine w_eq1 (by assumption) (by assumption) rfl ?_
    | refine w_eqN (by assumption) (by assumption) rfl ?_
    | refine w_len ?_)
  repeat (first
    | with_reducible refine w_bind (pick_t _ _) ?_
    | with_reducible refine w_bind (pick_f _ _) ?_
    | with_reducible refine w_bind gV_tt ?_
    | with_reducible refine w_bind gV_ff ?_
    | with_reducible refine w_bind gV_tf ?_
    | with_reducible refine w_bind gV_ft ?_
    | with_reducible refine w_bind gB_tf ?_
    | with_reducible refine w_bind gB_ft ?_
    | with_reducible refine w_gE_tf ?_
    | with_reducible refine w_gE_ft ?_
    | with_reducible refine w_gE_tt ?_
    | with_reducible refine w_gE_ff ?_
    | with_reducible refine w_onK_tf ?_
    | with_reducible refine w_onK_ft ?_
    | with_reducible refine w_onK_tt ?_
    | with_reducible refine w_onK_ff ?_
    | with_reducible refine w_gld_tt ?_
    | with_reducible refine w_gld_ff ?_
    | with_reducible refine w_gld_tf ?_
    | with_reducible refine w_gld_ft ?_
    | with_reducible refine w_gldN_tt ?_
    | with_reducible refine w_gldN_ff ?_
    | with_reducible refine w_gldN_tf ?_
    | with_reducible refine w_gldN_ft ?_
    | with_reducible refine w_gB_tt ?_
    | with_reducible refine w_gB_ff ?_
    | with_reducible refine w_bind un_not ?_
    | with_reducible refine w_cond_t ?_
    | with_reducible refine w_cond_f ?_
    | with_reducible refine w_bind gV_u ?_
    | with_reducible refine w_bind gB_u ?_
    | with_reducible refine w_gld_u ?_)
  repeat (first
    | with_reducible refine w_newC (by assumption) fun _ _ _ => ?_
    | with_reducible refine w_new (by assumption) fun _ _ _ => ?_
    | with_reducible refine w_map (by assumption) fun _ _ _ => ?_
    | with_reducible refine w_S ?_
    | with_reducible refine w_R (by assumption) fun _ _ _ => ?_
    | refine w_LdN (by assumption) ?_
    | refine w_ld (by assumption) end_nf rfl ?_
    | refine w_ld (by assumption) end_f0 rfl ?_
    | refine w_ldN (by assumption) end_nf ?_
    | refine w_ldN (by assumption) end_f0 ?_
    | with_reducible refine w_ad end_nf ?_
    | with_reducible refine w_ad end_f0 ?_
    | refine w_Ld1 (by assumption) rfl ?_
    | refine w_st (by assumption) end_nf rfl rfl fun _ _ => ?_
    | refine w_st (by assumption) end_f0 rfl rfl fun _ _ => ?_
    | refine w_St (by assumption) rfl rfl fun _ _ => ?_
    | refine w_eqK_rfl ?_
    | refine w_eq1 (by assumption) (by assumption) rfl ?_
    | refine w_eqN (by assumption) (by assumption) rfl ?_
    | refine w_len ?_)
  repeat (first
    | with_reducible refine w_bind (pick_t _ _) ?_
    | with_reducible refine w_bind (pick_f _ _) ?_
    | with_reducible refine w_bind gV_tt ?_
    | with_reducible refine w_bind gV_ff ?_
    | with_reducible refine w_bind gV_tf ?_
    | with_reducible refine w_bind gV_ft ?_
    | with_reducible refine w_bind gB_tf ?_
    | with_reducible refine w_bind gB_ft ?_
    | with_reducible refine w_gE_tf ?_
    | with_reducible refine w_gE_ft ?_
    | with_reducible refine w_gE_tt ?_
    | with_reducible refine w_gE_ff ?_
    | with_reducible refine w_onK_tf ?_
    | with_reducible refine w_onK_ft ?_
    | with_reducible refine w_onK_tt ?_
    | with_reducible refine w_onK_ff ?_
    | with_reducible refine w_gld_tt ?_
    | with_reducible refine w_gld_ff ?_
    | with_reducible refine w_gld_tf ?_
    | with_reducible refine w_gld_ft ?_
    | with_reducible refine w_gldN_tt ?_
    | with_reducible refine w_gldN_ff ?_
    | with_reducible refine w_gldN_tf ?_
    | with_reducible refine w_gldN_ft ?_
    | with_reducible refine w_gB_tt ?_
    | with_reducible refine w_gB_ff ?_
    | with_reducible refine w_bind un_not ?_
    | with_reducible refine w_cond_t ?_
    | with_reducible refine w_cond_f ?_
    | with_reducible refine w_bind gV_u ?_
    | with_reducible refine w_bind gB_u ?_
    | with_reducible refine w_gld_u ?_)
  repeat (first
    | with_reducible refine w_newC (by assumption) fun _ _ _ => ?_
    | with_reducible refine w_new (by assumption) fun _ _ _ => ?_
    | with_reducible refine w_map (by assumption) fun _ _ _ => ?_
    | with_reducible refine w_S ?_
    | with_reducible refine w_R (by assumption) fun _ _ _ => ?_
    | refine w_LdN (by assumption) ?_
    | refine w_ld (by assumption) end_nf rfl ?_
    | refine w_ld (by assumption) end_f0 rfl ?_
    | refine w_ldN (by assumption) end_nf ?_
    | refine w_ldN (by assumption) end_f0 ?_
    | with_reducible refine w_ad end_nf ?_
    | with_reducible refine w_ad end_f0 ?_
    | refine w_Ld1 (by assumption) rfl ?_
    | refine w_st (by assumption) end_nf rfl rfl fun _ _ => ?_
    | refine w_st (by assumption) end_f0 rfl rfl fun _ _ => ?_
    | refine w_St (by assumption) rfl rfl fun _ _ => ?_
    | refine w_eqK_rfl ?_
    | refine w_eq1 (by assumption) (by assumption) rfl ?_
    | refine w_eqN (by assumption) (by assumption) rfl ?_
    | refine w_len ?_)
  repeat (first
    | with_reducible refine w_bind (pick_t _ _) ?_
    | with_reducible refine w_bind (pick_f _ _) ?_
    | with_reducible refine w_bind gV_tt ?_
    | with_reducible refine w_bind gV_ff ?_
    | with_reducible refine w_bind gV_tf ?_
    | with_reducible refine w_bind gV_ft ?_
    | with_reducible refine w_bind gB_tf ?_
    | with_reducible refine w_bind gB_ft ?_
    | with_reducible refine w_gE_tf ?_
    | with_reducible refine w_gE_ft ?_
    | with_reducible refine w_gE_tt ?_
    | with_reducible refine w_gE_ff ?_
    | with_reducible refine w_onK_tf ?_
    | with_reducible refine w_onK_ft ?_
    | with_reducible refine w_onK_tt ?_
    | with_reducible refine w_onK_ff ?_
    | with_reducible refine w_gld_tt ?_
    | with_reducible refine w_gld_ff ?_
    | with_reducible refine w_gld_tf ?_
    | with_reducible refine w_gld_ft ?_
    | with_reducible refine w_gldN_tt ?_
    | with_reducible refine w_gldN_ff ?_
    | with_reducible refine w_gldN_tf ?_
    | with_reducible refine w_gldN_ft ?_
    | with_reducible refine w_gB_tt ?_
    | with_reducible refine w_gB_ff ?_
    | with_reducible refine w_bind un_not ?_
    | with_reducible refine w_cond_t ?_
    | with_reducible refine w_cond_f ?_
    | with_reducible refine w_bind gV_u ?_
    | with_reducible refine w_bind gB_u ?_
    | with_reducible refine w_gld_u ?_)
  refine w_mkRB (by assumption) rfl fun b3 H3 h3 => ?_
  repeat (first
    | with_reducible refine w_bind (pick_t _ _) ?_
    | with_reducible refine w_bind (pick_f _ _) ?_
    | with_reducible refine w_bind gV_tt ?_
    | with_reducible refine w_bind gV_ff ?_
    | with_reducible refine w_bind gV_tf ?_
    | with_reducible refine w_bind gV_ft ?_
    | with_reducible refine w_bind gB_tf ?_
    | with_reducible refine w_bind gB_ft ?_
    | with_reducible refine w_gE_tf ?_
    | with_reducible refine w_gE_ft ?_
    | with_reducible refine w_gE_tt ?_
    | with_reducible refine w_gE_ff ?_
    | with_reducible refine w_onK_tf ?_
    | with_reducible refine w_onK_ft ?_
    | with_reducible refine w_onK_tt ?_
    | with_reducible refine w_onK_ff ?_
    | with_reducible refine w_gld_tt ?_
    | with_reducible refine w_gld_ff ?_
    | with_reducible refine w_gld_tf ?_
    | with_reducible refine w_gld_ft ?_
    | with_reducible refine w_gldN_tt ?_
    | with_reducible refine w_gldN_ff ?_
    | with_reducible refine w_gldN_tf ?_
    | with_reducible refine w_gldN_ft ?_
    | with_reducible refine w_gB_tt ?_
    | with_reducible refine w_gB_ff ?_
    | with_reducible refine w_bind un_not ?_
    | with_reducible refine w_cond_t ?_
    | with_reducible refine w_cond_f ?_
    | with_reducible refine w_bind gV_u ?_
    | with_reducible refine w_bind gB_u ?_
    | with_reducible refine w_gld_u ?_)
  have r3 := row_of (l := [⟨u, 1, (11, a, 0)⟩, ⟨u, 3, (11, a, 0)⟩, ⟨u, 4, (11, a, 0)⟩]) h3 rfl
  refine w_ro r3 (pace_tries (s := vs b3 3 5) (l := [⟨u, 1, (11, a, 0)⟩, ⟨u, 3, (11, a, 0)⟩, ⟨u, 4, (11, a, 0)⟩]) (by simp)) fun K3 k3 => ?_
  rw [t3 rfl]
  repeat (first
    | with_reducible refine w_bind (pick_t _ _) ?_
    | with_reducible refine w_bind (pick_f _ _) ?_
    | with_reducible refine w_bind gV_tt ?_
    | with_reducible refine w_bind gV_ff ?_
    | with_reducible refine w_bind gV_tf ?_
    | with_reducible refine w_bind gV_ft ?_
    | with_reducible refine w_bind gB_tf ?_
    | with_reducible refine w_bind gB_ft ?_
    | with_reducible refine w_gE_tf ?_
    | with_reducible refine w_gE_ft ?_
    | with_reducible refine w_gE_tt ?_
    | with_reducible refine w_gE_ff ?_
    | with_reducible refine w_onK_tf ?_
    | with_reducible refine w_onK_ft ?_
    | with_reducible refine w_onK_tt ?_
    | with_reducible refine w_onK_ff ?_
    | with_reducible refine w_gld_tt ?_
    | with_reducible refine w_gld_ff ?_
    | with_reducible refine w_gld_tf ?_
    | with_reducible refine w_gld_ft ?_
    | with_reducible refine w_gldN_tt ?_
    | with_reducible refine w_gldN_ff ?_
    | with_reducible refine w_gldN_tf ?_
    | with_reducible refine w_gldN_ft ?_
    | with_reducible refine w_gB_tt ?_
    | with_reducible refine w_gB_ff ?_
    | with_reducible refine w_bind un_not ?_
    | with_reducible refine w_cond_t ?_
    | with_reducible refine w_cond_f ?_
    | with_reducible refine w_bind gV_u ?_
    | with_reducible refine w_bind gB_u ?_
    | with_reducible refine w_gld_u ?_)
  rw [Bool.not_false]
  repeat (first
    | with_reducible refine w_bind (pick_t _ _) ?_
    | with_reducible refine w_bind (pick_f _ _) ?_
    | with_reducible refine w_bind gV_tt ?_
    | with_reducible refine w_bind gV_ff ?_
    | with_reducible refine w_bind gV_tf ?_
    | with_reducible refine w_bind gV_ft ?_
    | with_reducible refine w_bind gB_tf ?_
    | with_reducible refine w_bind gB_ft ?_
    | with_reducible refine w_gE_tf ?_
    | with_reducible refine w_gE_ft ?_
    | with_reducible refine w_gE_tt ?_
    | with_reducible refine w_gE_ff ?_
    | with_reducible refine w_onK_tf ?_
    | with_reducible refine w_onK_ft ?_
    | with_reducible refine w_onK_tt ?_
    | with_reducible refine w_onK_ff ?_
    | with_reducible refine w_gld_tt ?_
    | with_reducible refine w_gld_ff ?_
    | with_reducible refine w_gld_tf ?_
    | with_reducible refine w_gld_ft ?_
    | with_reducible refine w_gldN_tt ?_
    | with_reducible refine w_gldN_ff ?_
    | with_reducible refine w_gldN_tf ?_
    | with_reducible refine w_gldN_ft ?_
    | with_reducible refine w_gB_tt ?_
    | with_reducible refine w_gB_ff ?_
    | with_reducible refine w_bind un_not ?_
    | with_reducible refine w_cond_t ?_
    | with_reducible refine w_cond_f ?_
    | with_reducible refine w_bind gV_u ?_
    | with_reducible refine w_bind gB_u ?_
    | with_reducible refine w_gld_u ?_)
  repeat (first
    | with_reducible refine w_bind (pick_t _ _) ?_
    | with_reducible refine w_bind (pick_f _ _) ?_
    | with_reducible refine w_bind gV_tt ?_
    | with_reducible refine w_bind gV_ff ?_
    | with_reducible refine w_bind gV_tf ?_
    | with_reducible refine w_bind gV_ft ?_
    | with_reducible refine w_bind gB_tf ?_
    | with_reducible refine w_bind gB_ft ?_
    | with_reducible refine w_gE_tf ?_
    | with_reducible refine w_gE_ft ?_
    | with_reducible refine w_gE_tt ?_
    | with_reducible refine w_gE_ff ?_
    | with_reducible refine w_onK_tf ?_
    | with_reducible refine w_onK_ft ?_
    | with_reducible refine w_onK_tt ?_
    | with_reducible refine w_onK_ff ?_
    | with_reducible refine w_gld_tt ?_
    | with_reducible refine w_gld_ff ?_
    | with_reducible refine w_gld_tf ?_
    | with_reducible refine w_gld_ft ?_
    | with_reducible refine w_gldN_tt ?_
    | with_reducible refine w_gldN_ff ?_
    | with_reducible refine w_gldN_tf ?_
    | with_reducible refine w_gldN_ft ?_
    | with_reducible refine w_gB_tt ?_
    | with_reducible refine w_gB_ff ?_
    | with_reducible refine w_bind un_not ?_
    | with_reducible refine w_cond_t ?_
    | with_reducible refine w_cond_f ?_
    | with_reducible refine w_bind gV_u ?_
    | with_reducible refine w_bind gB_u ?_
    | with_reducible refine w_gld_u ?_)
  repeat (first
    | with_reducible refine w_newC (by assumption) fun _ _ _ => ?_
    | with_reducible refine w_new (by assumption) fun _ _ _ => ?_
    | with_reducible refine w_map (by assumption) fun _ _ _ => ?_
    | with_reducible refine w_S ?_
    | with_reducible refine w_R (by assumption) fun _ _ _ => ?_
    | refine w_LdN (by assumption) ?_
    | refine w_ld (by assumption) end_nf rfl ?_
    | refine w_ld (by assumption) end_f0 rfl ?_
    | refine w_ldN (by assumption) end_nf ?_
    | refine w_ldN (by assumption) end_f0 ?_
    | with_reducible refine w_ad end_nf ?_
    | with_reducible refine w_ad end_f0 ?_
    | refine w_Ld1 (by assumption) rfl ?_
    | refine w_st (by assumption) end_nf rfl rfl fun _ _ => ?_
    | refine w_st (by assumption) end_f0 rfl rfl fun _ _ => ?_
    | refine w_St (by assumption) rfl rfl fun _ _ => ?_
    | refine w_eqK_rfl ?_
    | refine w_eq1 (by assumption) (by assumption) rfl ?_
    | refine w_eqN (by assumption) (by assumption) rfl ?_
    | refine w_len ?_)
  repeat (first
    | with_reducible refine w_bind (pick_t _ _) ?_
    | with_reducible refine w_bind (pick_f _ _) ?_
    | with_reducible refine w_bind gV_tt ?_
    | with_reducible refine w_bind gV_ff ?_
    | with_reducible refine w_bind gV_tf ?_
    | with_reducible refine w_bind gV_ft ?_
    | with_reducible refine w_bind gB_tf ?_
    | with_reducible refine w_bind gB_ft ?_
    | with_reducible refine w_gE_tf ?_
    | with_reducible refine w_gE_ft ?_
    | with_reducible refine w_gE_tt ?_
    | with_reducible refine w_gE_ff ?_
    | with_reducible refine w_onK_tf ?_
    | with_reducible refine w_onK_ft ?_
    | with_reducible refine w_onK_tt ?_
    | with_reducible refine w_onK_ff ?_
    | with_reducible refine w_gld_tt ?_
    | with_reducible refine w_gld_ff ?_
    | with_reducible refine w_gld_tf ?_
    | with_reducible refine w_gld_ft ?_
    | with_reducible refine w_gldN_tt ?_
    | with_reducible refine w_gldN_ff ?_
    | with_reducible refine w_gldN_tf ?_
    | with_reducible refine w_gldN_ft ?_
    | with_reducible refine w_gB_tt ?_
    | with_reducible refine w_gB_ff ?_
    | with_reducible refine w_bind un_not ?_
    | with_reducible refine w_cond_t ?_
    | with_reducible refine w_cond_f ?_
    | with_reducible refine w_bind gV_u ?_
    | with_reducible refine w_bind gB_u ?_
    | with_reducible refine w_gld_u ?_)
  repeat (first
    | with_reducible refine w_newC (by assumption) fun _ _ _ => ?_
    | with_reducible refine w_new (by assumption) fun _ _ _ => ?_
    | with_reducible refine w_map (by assumption) fun _ _ _ => ?_
    | with_reducible refine w_S ?_
    | with_reducible refine w_R (by assumption) fun _ _ _ => ?_
    | refine w_LdN (by assumption) ?_
    | refine w_ld (by assumption) end_nf rfl ?_
    | refine w_ld (by assumption) end_f0 rfl ?_
    | refine w_ldN (by assumption) end_nf ?_
    | refine w_ldN (by assumption) end_f0 ?_
    | with_reducible refine w_ad end_nf ?_
    | with_reducible refine w_ad end_f0 ?_
    | refine w_Ld1 (by assumption) rfl ?_
    | refine w_st (by assumption) end_nf rfl rfl fun _ _ => ?_
    | refine w_st (by assumption) end_f0 rfl rfl fun _ _ => ?_
    | refine w_St (by assumption) rfl rfl fun _ _ => ?_
    | refine w_eqK_rfl ?_
    | refine w_eq1 (by assumption) (by assumption) rfl ?_
    | refine w_eqN (by assumption) (by assumption) rfl ?_
    | refine w_len ?_)
  repeat (first
    | with_reducible refine w_bind (pick_t _ _) ?_
    | with_reducible refine w_bind (pick_f _ _) ?_
    | with_reducible refine w_bind gV_tt ?_
    | with_reducible refine w_bind gV_ff ?_
    | with_reducible refine w_bind gV_tf ?_
    | with_reducible refine w_bind gV_ft ?_
    | with_reducible refine w_bind gB_tf ?_
    | with_reducible refine w_bind gB_ft ?_
    | with_reducible refine w_gE_tf ?_
    | with_reducible refine w_gE_ft ?_
    | with_reducible refine w_gE_tt ?_
    | with_reducible refine w_gE_ff ?_
    | with_reducible refine w_onK_tf ?_
    | with_reducible refine w_onK_ft ?_
    | with_reducible refine w_onK_tt ?_
    | with_reducible refine w_onK_ff ?_
    | with_reducible refine w_gld_tt ?_
    | with_reducible refine w_gld_ff ?_
    | with_reducible refine w_gld_tf ?_
    | with_reducible refine w_gld_ft ?_
    | with_reducible refine w_gldN_tt ?_
    | with_reducible refine w_gldN_ff ?_
    | with_reducible refine w_gldN_tf ?_
    | with_reducible refine w_gldN_ft ?_
    | with_reducible refine w_gB_tt ?_
    | with_reducible refine w_gB_ff ?_
    | with_reducible refine w_bind un_not ?_
    | with_reducible refine w_cond_t ?_
    | with_reducible refine w_cond_f ?_
    | with_reducible refine w_bind gV_u ?_
    | with_reducible refine w_bind gB_u ?_
    | with_reducible refine w_gld_u ?_)
  repeat (first
    | with_reducible refine w_newC (by assumption) fun _ _ _ => ?_
    | with_reducible refine w_new (by assumption) fun _ _ _ => ?_
    | with_reducible refine w_map (by assumption) fun _ _ _ => ?_
    | with_reducible refine w_S ?_
    | with_reducible refine w_R (by assumption) fun _ _ _ => ?_
    | refine w_LdN (by assumption) ?_
    | refine w_ld (by assumption) end_nf rfl ?_
    | refine w_ld (by assumption) end_f0 rfl ?_
    | refine w_ldN (by assumption) end_nf ?_
    | refine w_ldN (by assumption) end_f0 ?_
    | with_reducible refine w_ad end_nf ?_
    | with_reducible refine w_ad end_f0 ?_
    | refine w_Ld1 (by assumption) rfl ?_
    | refine w_st (by assumption) end_nf rfl rfl fun _ _ => ?_
    | refine w_st (by assumption) end_f0 rfl rfl fun _ _ => ?_
    | refine w_St (by assumption) rfl rfl fun _ _ => ?_
    | refine w_eqK_rfl ?_
    | refine w_eq1 (by assumption) (by assumption) rfl ?_
    | refine w_eqN (by assumption) (by assumption) rfl ?_
    | refine w_len ?_)
  repeat (first
    | with_reducible refine w_bind (pick_t _ _) ?_
    | with_reducible refine w_bind (pick_f _ _) ?_
    | with_reducible refine w_bind gV_tt ?_
    | with_reducible refine w_bind gV_ff ?_
    | with_reducible refine w_bind gV_tf ?_
    | with_reducible refine w_bind gV_ft ?_
    | with_reducible refine w_bind gB_tf ?_
    | with_reducible refine w_bind gB_ft ?_
    | with_reducible refine w_gE_tf ?_
    | with_reducible refine w_gE_ft ?_
    | with_reducible refine w_gE_tt ?_
    | with_reducible refine w_gE_ff ?_
    | with_reducible refine w_onK_tf ?_
    | with_reducible refine w_onK_ft ?_
    | with_reducible refine w_onK_tt ?_
    | with_reducible refine w_onK_ff ?_
    | with_reducible refine w_gld_tt ?_
    | with_reducible refine w_gld_ff ?_
    | with_reducible refine w_gld_tf ?_
    | with_reducible refine w_gld_ft ?_
    | with_reducible refine w_gldN_tt ?_
    | with_reducible refine w_gldN_ff ?_
    | with_reducible refine w_gldN_tf ?_
    | with_reducible refine w_gldN_ft ?_
    | with_reducible refine w_gB_tt ?_
    | with_reducible refine w_gB_ff ?_
    | with_reducible refine w_bind un_not ?_
    | with_reducible refine w_cond_t ?_
    | with_reducible refine w_cond_f ?_
    | with_reducible refine w_bind gV_u ?_
    | with_reducible refine w_bind gB_u ?_
    | with_reducible refine w_gld_u ?_)
  refine w_mkRB (by assumption) rfl fun b4 H4 h4 => ?_
  repeat (first
    | with_reducible refine w_bind (pick_t _ _) ?_
    | with_reducible refine w_bind (pick_f _ _) ?_
    | with_reducible refine w_bind gV_tt ?_
    | with_reducible refine w_bind gV_ff ?_
    | with_reducible refine w_bind gV_tf ?_
    | with_reducible refine w_bind gV_ft ?_
    | with_reducible refine w_bind gB_tf ?_
    | with_reducible refine w_bind gB_ft ?_
    | with_reducible refine w_gE_tf ?_
    | with_reducible refine w_gE_ft ?_
    | with_reducible refine w_gE_tt ?_
    | with_reducible refine w_gE_ff ?_
    | with_reducible refine w_onK_tf ?_
    | with_reducible refine w_onK_ft ?_
    | with_reducible refine w_onK_tt ?_
    | with_reducible refine w_onK_ff ?_
    | with_reducible refine w_gld_tt ?_
    | with_reducible refine w_gld_ff ?_
    | with_reducible refine w_gld_tf ?_
    | with_reducible refine w_gld_ft ?_
    | with_reducible refine w_gldN_tt ?_
    | with_reducible refine w_gldN_ff ?_
    | with_reducible refine w_gldN_tf ?_
    | with_reducible refine w_gldN_ft ?_
    | with_reducible refine w_gB_tt ?_
    | with_reducible refine w_gB_ff ?_
    | with_reducible refine w_bind un_not ?_
    | with_reducible refine w_cond_t ?_
    | with_reducible refine w_cond_f ?_
    | with_reducible refine w_bind gV_u ?_
    | with_reducible refine w_bind gB_u ?_
    | with_reducible refine w_gld_u ?_)
  have r4 := row_of (l := [⟨u, 1, (11, a, 0)⟩, ⟨w, 3, (11, b, 0)⟩, ⟨u, 4, (11, a, 0)⟩]) h4 rfl
  refine w_ro r4 (pace_tries (s := vs b4 3 5) (l := [⟨u, 1, (11, a, 0)⟩, ⟨w, 3, (11, b, 0)⟩, ⟨u, 4, (11, a, 0)⟩]) (by simp)) fun K4 k4 => ?_
  rw [t4 hab rfl]
  repeat (first
    | with_reducible refine w_bind (pick_t _ _) ?_
    | with_reducible refine w_bind (pick_f _ _) ?_
    | with_reducible refine w_bind gV_tt ?_
    | with_reducible refine w_bind gV_ff ?_
    | with_reducible refine w_bind gV_tf ?_
    | with_reducible refine w_bind gV_ft ?_
    | with_reducible refine w_bind gB_tf ?_
    | with_reducible refine w_bind gB_ft ?_
    | with_reducible refine w_gE_tf ?_
    | with_reducible refine w_gE_ft ?_
    | with_reducible refine w_gE_tt ?_
    | with_reducible refine w_gE_ff ?_
    | with_reducible refine w_onK_tf ?_
    | with_reducible refine w_onK_ft ?_
    | with_reducible refine w_onK_tt ?_
    | with_reducible refine w_onK_ff ?_
    | with_reducible refine w_gld_tt ?_
    | with_reducible refine w_gld_ff ?_
    | with_reducible refine w_gld_tf ?_
    | with_reducible refine w_gld_ft ?_
    | with_reducible refine w_gldN_tt ?_
    | with_reducible refine w_gldN_ff ?_
    | with_reducible refine w_gldN_tf ?_
    | with_reducible refine w_gldN_ft ?_
    | with_reducible refine w_gB_tt ?_
    | with_reducible refine w_gB_ff ?_
    | with_reducible refine w_bind un_not ?_
    | with_reducible refine w_cond_t ?_
    | with_reducible refine w_cond_f ?_
    | with_reducible refine w_bind gV_u ?_
    | with_reducible refine w_bind gB_u ?_
    | with_reducible refine w_gld_u ?_)
  rw [Bool.not_false]
  repeat (first
    | with_reducible refine w_bind (pick_t _ _) ?_
    | with_reducible refine w_bind (pick_f _ _) ?_
    | with_reducible refine w_bind gV_tt ?_
    | with_reducible refine w_bind gV_ff ?_
    | with_reducible refine w_bind gV_tf ?_
    | with_reducible refine w_bind gV_ft ?_
    | with_reducible refine w_bind gB_tf ?_
    | with_reducible refine w_bind gB_ft ?_
    | with_reducible refine w_gE_tf ?_
    | with_reducible refine w_gE_ft ?_
    | with_reducible refine w_gE_tt ?_
    | with_reducible refine w_gE_ff ?_
    | with_reducible refine w_onK_tf ?_
    | with_reducible refine w_onK_ft ?_
    | with_reducible refine w_onK_tt ?_
    | with_reducible refine w_onK_ff ?_
    | with_reducible refine w_gld_tt ?_
    | with_reducible refine w_gld_ff ?_
    | with_reducible refine w_gld_tf ?_
    | with_reducible refine w_gld_ft ?_
    | with_reducible refine w_gldN_tt ?_
    | with_reducible refine w_gldN_ff ?_
    | with_reducible refine w_gldN_tf ?_
    | with_reducible refine w_gldN_ft ?_
    | with_reducible refine w_gB_tt ?_
    | with_reducible refine w_gB_ff ?_
    | with_reducible refine w_bind un_not ?_
    | with_reducible refine w_cond_t ?_
    | with_reducible refine w_cond_f ?_
    | with_reducible refine w_bind gV_u ?_
    | with_reducible refine w_bind gB_u ?_
    | with_reducible refine w_gld_u ?_)
  repeat (first
    | with_reducible refine w_bind (pick_t _ _) ?_
    | with_reducible refine w_bind (pick_f _ _) ?_
    | with_reducible refine w_bind gV_tt ?_
    | with_reducible refine w_bind gV_ff ?_
    | with_reducible refine w_bind gV_tf ?_
    | with_reducible refine w_bind gV_ft ?_
    | with_reducible refine w_bind gB_tf ?_
    | with_reducible refine w_bind gB_ft ?_
    | with_reducible refine w_gE_tf ?_
    | with_reducible refine w_gE_ft ?_
    | with_reducible refine w_gE_tt ?_
    | with_reducible refine w_gE_ff ?_
    | with_reducible refine w_onK_tf ?_
    | with_reducible refine w_onK_ft ?_
    | with_reducible refine w_onK_tt ?_
    | with_reducible refine w_onK_ff ?_
    | with_reducible refine w_gld_tt ?_
    | with_reducible refine w_gld_ff ?_
    | with_reducible refine w_gld_tf ?_
    | with_reducible refine w_gld_ft ?_
    | with_reducible refine w_gldN_tt ?_
    | with_reducible refine w_gldN_ff ?_
    | with_reducible refine w_gldN_tf ?_
    | with_reducible refine w_gldN_ft ?_
    | with_reducible refine w_gB_tt ?_
    | with_reducible refine w_gB_ff ?_
    | with_reducible refine w_bind un_not ?_
    | with_reducible refine w_cond_t ?_
    | with_reducible refine w_cond_f ?_
    | with_reducible refine w_bind gV_u ?_
    | with_reducible refine w_bind gB_u ?_
    | with_reducible refine w_gld_u ?_)
  repeat (first
    | with_reducible refine w_newC (by assumption) fun _ _ _ => ?_
    | with_reducible refine w_new (by assumption) fun _ _ _ => ?_
    | with_reducible refine w_map (by assumption) fun _ _ _ => ?_
    | with_reducible refine w_S ?_
    | with_reducible refine w_R (by assumption) fun _ _ _ => ?_
    | refine w_LdN (by assumption) ?_
    | refine w_ld (by assumption) end_nf rfl ?_
    | refine w_ld (by assumption) end_f0 rfl ?_
    | refine w_ldN (by assumption) end_nf ?_
    | refine w_ldN (by assumption) end_f0 ?_
    | with_reducible refine w_ad end_nf ?_
    | with_reducible refine w_ad end_f0 ?_
    | refine w_Ld1 (by assumption) rfl ?_
    | refine w_st (by assumption) end_nf rfl rfl fun _ _ => ?_
    | refine w_st (by assumption) end_f0 rfl rfl fun _ _ => ?_
    | refine w_St (by assumption) rfl rfl fun _ _ => ?_
    | refine w_eqK_rfl ?_
    | refine w_eq1 (by assumption) (by assumption) rfl ?_
    | refine w_eqN (by assumption) (by assumption) rfl ?_
    | refine w_len ?_)
  repeat (first
    | with_reducible refine w_bind (pick_t _ _) ?_
    | with_reducible refine w_bind (pick_f _ _) ?_
    | with_reducible refine w_bind gV_tt ?_
    | with_reducible refine w_bind gV_ff ?_
    | with_reducible refine w_bind gV_tf ?_
    | with_reducible refine w_bind gV_ft ?_
    | with_reducible refine w_bind gB_tf ?_
    | with_reducible refine w_bind gB_ft ?_
    | with_reducible refine w_gE_tf ?_
    | with_reducible refine w_gE_ft ?_
    | with_reducible refine w_gE_tt ?_
    | with_reducible refine w_gE_ff ?_
    | with_reducible refine w_onK_tf ?_
    | with_reducible refine w_onK_ft ?_
    | with_reducible refine w_onK_tt ?_
    | with_reducible refine w_onK_ff ?_
    | with_reducible refine w_gld_tt ?_
    | with_reducible refine w_gld_ff ?_
    | with_reducible refine w_gld_tf ?_
    | with_reducible refine w_gld_ft ?_
    | with_reducible refine w_gldN_tt ?_
    | with_reducible refine w_gldN_ff ?_
    | with_reducible refine w_gldN_tf ?_
    | with_reducible refine w_gldN_ft ?_
    | with_reducible refine w_gB_tt ?_
    | with_reducible refine w_gB_ff ?_
    | with_reducible refine w_bind un_not ?_
    | with_reducible refine w_cond_t ?_
    | with_reducible refine w_cond_f ?_
    | with_reducible refine w_bind gV_u ?_
    | with_reducible refine w_bind gB_u ?_
    | with_reducible refine w_gld_u ?_)
  repeat (first
    | with_reducible refine w_newC (by assumption) fun _ _ _ => ?_
    | with_reducible refine w_new (by assumption) fun _ _ _ => ?_
    | with_reducible refine w_map (by assumption) fun _ _ _ => ?_
    | with_reducible refine w_S ?_
    | with_reducible refine w_R (by assumption) fun _ _ _ => ?_
    | refine w_LdN (by assumption) ?_
    | refine w_ld (by assumption) end_nf rfl ?_
    | refine w_ld (by assumption) end_f0 rfl ?_
    | refine w_ldN (by assumption) end_nf ?_
    | refine w_ldN (by assumption) end_f0 ?_
    | with_reducible refine w_ad end_nf ?_
    | with_reducible refine w_ad end_f0 ?_
    | refine w_Ld1 (by assumption) rfl ?_
    | refine w_st (by assumption) end_nf rfl rfl fun _ _ => ?_
    | refine w_st (by assumption) end_f0 rfl rfl fun _ _ => ?_
    | refine w_St (by assumption) rfl rfl fun _ _ => ?_
    | refine w_eqK_rfl ?_
    | refine w_eq1 (by assumption) (by assumption) rfl ?_
    | refine w_eqN (by assumption) (by assumption) rfl ?_
    | refine w_len ?_)
  repeat (first
    | with_reducible refine w_bind (pick_t _ _) ?_
    | with_reducible refine w_bind (pick_f _ _) ?_
    | with_reducible refine w_bind gV_tt ?_
    | with_reducible refine w_bind gV_ff ?_
    | with_reducible refine w_bind gV_tf ?_
    | with_reducible refine w_bind gV_ft ?_
    | with_reducible refine w_bind gB_tf ?_
    | with_reducible refine w_bind gB_ft ?_
    | with_reducible refine w_gE_tf ?_
    | with_reducible refine w_gE_ft ?_
    | with_reducible refine w_gE_tt ?_
    | with_reducible refine w_gE_ff ?_
    | with_reducible refine w_onK_tf ?_
    | with_reducible refine w_onK_ft ?_
    | with_reducible refine w_onK_tt ?_
    | with_reducible refine w_onK_ff ?_
    | with_reducible refine w_gld_tt ?_
    | with_reducible refine w_gld_ff ?_
    | with_reducible refine w_gld_tf ?_
    | with_reducible refine w_gld_ft ?_
    | with_reducible refine w_gldN_tt ?_
    | with_reducible refine w_gldN_ff ?_
    | with_reducible refine w_gldN_tf ?_
    | with_reducible refine w_gldN_ft ?_
    | with_reducible refine w_gB_tt ?_
    | with_reducible refine w_gB_ff ?_
    | with_reducible refine w_bind un_not ?_
    | with_reducible refine w_cond_t ?_
    | with_reducible refine w_cond_f ?_
    | with_reducible refine w_bind gV_u ?_
    | with_reducible refine w_bind gB_u ?_
    | with_reducible refine w_gld_u ?_)
  repeat (first
    | with_reducible refine w_newC (by assumption) fun _ _ _ => ?_
    | with_reducible refine w_new (by assumption) fun _ _ _ => ?_
    | with_reducible refine w_map (by assumption) fun _ _ _ => ?_
    | with_reducible refine w_S ?_
    | with_reducible refine w_R (by assumption) fun _ _ _ => ?_
    | refine w_LdN (by assumption) ?_
    | refine w_ld (by assumption) end_nf rfl ?_
    | refine w_ld (by assumption) end_f0 rfl ?_
    | refine w_ldN (by assumption) end_nf ?_
    | refine w_ldN (by assumption) end_f0 ?_
    | with_reducible refine w_ad end_nf ?_
    | with_reducible refine w_ad end_f0 ?_
    | refine w_Ld1 (by assumption) rfl ?_
    | refine w_st (by assumption) end_nf rfl rfl fun _ _ => ?_
    | refine w_st (by assumption) end_f0 rfl rfl fun _ _ => ?_
    | refine w_St (by assumption) rfl rfl fun _ _ => ?_
    | refine w_eqK_rfl ?_
    | refine w_eq1 (by assumption) (by assumption) rfl ?_
    | refine w_eqN (by assumption) (by assumption) rfl ?_
    | refine w_len ?_)
  repeat (first
    | with_reducible refine w_bind (pick_t _ _) ?_
    | with_reducible refine w_bind (pick_f _ _) ?_
    | with_reducible refine w_bind gV_tt ?_
    | with_reducible refine w_bind gV_ff ?_
    | with_reducible refine w_bind gV_tf ?_
    | with_reducible refine w_bind gV_ft ?_
    | with_reducible refine w_bind gB_tf ?_
    | with_reducible refine w_bind gB_ft ?_
    | with_reducible refine w_gE_tf ?_
    | with_reducible refine w_gE_ft ?_
    | with_reducible refine w_gE_tt ?_
    | with_reducible refine w_gE_ff ?_
    | with_reducible refine w_onK_tf ?_
    | with_reducible refine w_onK_ft ?_
    | with_reducible refine w_onK_tt ?_
    | with_reducible refine w_onK_ff ?_
    | with_reducible refine w_gld_tt ?_
    | with_reducible refine w_gld_ff ?_
    | with_reducible refine w_gld_tf ?_
    | with_reducible refine w_gld_ft ?_
    | with_reducible refine w_gldN_tt ?_
    | with_reducible refine w_gldN_ff ?_
    | with_reducible refine w_gldN_tf ?_
    | with_reducible refine w_gldN_ft ?_
    | with_reducible refine w_gB_tt ?_
    | with_reducible refine w_gB_ff ?_
    | with_reducible refine w_bind un_not ?_
    | with_reducible refine w_cond_t ?_
    | with_reducible refine w_cond_f ?_
    | with_reducible refine w_bind gV_u ?_
    | with_reducible refine w_bind gB_u ?_
    | with_reducible refine w_gld_u ?_)
  refine w_mkRB (by assumption) rfl fun b5 H5 h5 => ?_
  repeat (first
    | with_reducible refine w_bind (pick_t _ _) ?_
    | with_reducible refine w_bind (pick_f _ _) ?_
    | with_reducible refine w_bind gV_tt ?_
    | with_reducible refine w_bind gV_ff ?_
    | with_reducible refine w_bind gV_tf ?_
    | with_reducible refine w_bind gV_ft ?_
    | with_reducible refine w_bind gB_tf ?_
    | with_reducible refine w_bind gB_ft ?_
    | with_reducible refine w_gE_tf ?_
    | with_reducible refine w_gE_ft ?_
    | with_reducible refine w_gE_tt ?_
    | with_reducible refine w_gE_ff ?_
    | with_reducible refine w_onK_tf ?_
    | with_reducible refine w_onK_ft ?_
    | with_reducible refine w_onK_tt ?_
    | with_reducible refine w_onK_ff ?_
    | with_reducible refine w_gld_tt ?_
    | with_reducible refine w_gld_ff ?_
    | with_reducible refine w_gld_tf ?_
    | with_reducible refine w_gld_ft ?_
    | with_reducible refine w_gldN_tt ?_
    | with_reducible refine w_gldN_ff ?_
    | with_reducible refine w_gldN_tf ?_
    | with_reducible refine w_gldN_ft ?_
    | with_reducible refine w_gB_tt ?_
    | with_reducible refine w_gB_ff ?_
    | with_reducible refine w_bind un_not ?_
    | with_reducible refine w_cond_t ?_
    | with_reducible refine w_cond_f ?_
    | with_reducible refine w_bind gV_u ?_
    | with_reducible refine w_bind gB_u ?_
    | with_reducible refine w_gld_u ?_)
  have r5 := row_of (l := [⟨w, 3, (11, a, 0)⟩, ⟨u, 1, (11, a, 0)⟩, ⟨u, 4, (11, a, 0)⟩]) h5 rfl
  refine w_ro r5 (pace_tries (s := vs b5 3 5) (l := [⟨w, 3, (11, a, 0)⟩, ⟨u, 1, (11, a, 0)⟩, ⟨u, 4, (11, a, 0)⟩]) (by simp)) fun K5 k5 => ?_
  rw [t5 rfl]
  repeat (first
    | with_reducible refine w_bind (pick_t _ _) ?_
    | with_reducible refine w_bind (pick_f _ _) ?_
    | with_reducible refine w_bind gV_tt ?_
    | with_reducible refine w_bind gV_ff ?_
    | with_reducible refine w_bind gV_tf ?_
    | with_reducible refine w_bind gV_ft ?_
    | with_reducible refine w_bind gB_tf ?_
    | with_reducible refine w_bind gB_ft ?_
    | with_reducible refine w_gE_tf ?_
    | with_reducible refine w_gE_ft ?_
    | with_reducible refine w_gE_tt ?_
    | with_reducible refine w_gE_ff ?_
    | with_reducible refine w_onK_tf ?_
    | with_reducible refine w_onK_ft ?_
    | with_reducible refine w_onK_tt ?_
    | with_reducible refine w_onK_ff ?_
    | with_reducible refine w_gld_tt ?_
    | with_reducible refine w_gld_ff ?_
    | with_reducible refine w_gld_tf ?_
    | with_reducible refine w_gld_ft ?_
    | with_reducible refine w_gldN_tt ?_
    | with_reducible refine w_gldN_ff ?_
    | with_reducible refine w_gldN_tf ?_
    | with_reducible refine w_gldN_ft ?_
    | with_reducible refine w_gB_tt ?_
    | with_reducible refine w_gB_ff ?_
    | with_reducible refine w_bind un_not ?_
    | with_reducible refine w_cond_t ?_
    | with_reducible refine w_cond_f ?_
    | with_reducible refine w_bind gV_u ?_
    | with_reducible refine w_bind gB_u ?_
    | with_reducible refine w_gld_u ?_)
  rw [Bool.not_false]
  repeat (first
    | with_reducible refine w_bind (pick_t _ _) ?_
    | with_reducible refine w_bind (pick_f _ _) ?_
    | with_reducible refine w_bind gV_tt ?_
    | with_reducible refine w_bind gV_ff ?_
    | with_reducible refine w_bind gV_tf ?_
    | with_reducible refine w_bind gV_ft ?_
    | with_reducible refine w_bind gB_tf ?_
    | with_reducible refine w_bind gB_ft ?_
    | with_reducible refine w_gE_tf ?_
    | with_reducible refine w_gE_ft ?_
    | with_reducible refine w_gE_tt ?_
    | with_reducible refine w_gE_ff ?_
    | with_reducible refine w_onK_tf ?_
    | with_reducible refine w_onK_ft ?_
    | with_reducible refine w_onK_tt ?_
    | with_reducible refine w_onK_ff ?_
    | with_reducible refine w_gld_tt ?_
    | with_reducible refine w_gld_ff ?_
    | with_reducible refine w_gld_tf ?_
    | with_reducible refine w_gld_ft ?_
    | with_reducible refine w_gldN_tt ?_
    | with_reducible refine w_gldN_ff ?_
    | with_reducible refine w_gldN_tf ?_
    | with_reducible refine w_gldN_ft ?_
    | with_reducible refine w_gB_tt ?_
    | with_reducible refine w_gB_ff ?_
    | with_reducible refine w_bind un_not ?_
    | with_reducible refine w_cond_t ?_
    | with_reducible refine w_cond_f ?_
    | with_reducible refine w_bind gV_u ?_
    | with_reducible refine w_bind gB_u ?_
    | with_reducible refine w_gld_u ?_)
  repeat (first
    | with_reducible refine w_bind (pick_t _ _) ?_
    | with_reducible refine w_bind (pick_f _ _) ?_
    | with_reducible refine w_bind gV_tt ?_
    | with_reducible refine w_bind gV_ff ?_
    | with_reducible refine w_bind gV_tf ?_
    | with_reducible refine w_bind gV_ft ?_
    | with_reducible refine w_bind gB_tf ?_
    | with_reducible refine w_bind gB_ft ?_
    | with_reducible refine w_gE_tf ?_
    | with_reducible refine w_gE_ft ?_
    | with_reducible refine w_gE_tt ?_
    | with_reducible refine w_gE_ff ?_
    | with_reducible refine w_onK_tf ?_
    | with_reducible refine w_onK_ft ?_
    | with_reducible refine w_onK_tt ?_
    | with_reducible refine w_onK_ff ?_
    | with_reducible refine w_gld_tt ?_
    | with_reducible refine w_gld_ff ?_
    | with_reducible refine w_gld_tf ?_
    | with_reducible refine w_gld_ft ?_
    | with_reducible refine w_gldN_tt ?_
    | with_reducible refine w_gldN_ff ?_
    | with_reducible refine w_gldN_tf ?_
    | with_reducible refine w_gldN_ft ?_
    | with_reducible refine w_gB_tt ?_
    | with_reducible refine w_gB_ff ?_
    | with_reducible refine w_bind un_not ?_
    | with_reducible refine w_cond_t ?_
    | with_reducible refine w_cond_f ?_
    | with_reducible refine w_bind gV_u ?_
    | with_reducible refine w_bind gB_u ?_
    | with_reducible refine w_gld_u ?_)
  repeat (first
    | with_reducible refine w_newC (by assumption) fun _ _ _ => ?_
    | with_reducible refine w_new (by assumption) fun _ _ _ => ?_
    | with_reducible refine w_map (by assumption) fun _ _ _ => ?_
    | with_reducible refine w_S ?_
    | with_reducible refine w_R (by assumption) fun _ _ _ => ?_
    | refine w_LdN (by assumption) ?_
    | refine w_ld (by assumption) end_nf rfl ?_
    | refine w_ld (by assumption) end_f0 rfl ?_
    | refine w_ldN (by assumption) end_nf ?_
    | refine w_ldN (by assumption) end_f0 ?_
    | with_reducible refine w_ad end_nf ?_
    | with_reducible refine w_ad end_f0 ?_
    | refine w_Ld1 (by assumption) rfl ?_
    | refine w_st (by assumption) end_nf rfl rfl fun _ _ => ?_
    | refine w_st (by assumption) end_f0 rfl rfl fun _ _ => ?_
    | refine w_St (by assumption) rfl rfl fun _ _ => ?_
    | refine w_eqK_rfl ?_
    | refine w_eq1 (by assumption) (by assumption) rfl ?_
    | refine w_eqN (by assumption) (by assumption) rfl ?_
    | refine w_len ?_)
  repeat (first
    | with_reducible refine w_bind (pick_t _ _) ?_
    | with_reducible refine w_bind (pick_f _ _) ?_
    | with_reducible refine w_bind gV_tt ?_
    | with_reducible refine w_bind gV_ff ?_
    | with_reducible refine w_bind gV_tf ?_
    | with_reducible refine w_bind gV_ft ?_
    | with_reducible refine w_bind gB_tf ?_
    | with_reducible refine w_bind gB_ft ?_
    | with_reducible refine w_gE_tf ?_
    | with_reducible refine w_gE_ft ?_
    | with_reducible refine w_gE_tt ?_
    | with_reducible refine w_gE_ff ?_
    | with_reducible refine w_onK_tf ?_
    | with_reducible refine w_onK_ft ?_
    | with_reducible refine w_onK_tt ?_
    | with_reducible refine w_onK_ff ?_
    | with_reducible refine w_gld_tt ?_
    | with_reducible refine w_gld_ff ?_
    | with_reducible refine w_gld_tf ?_
    | with_reducible refine w_gld_ft ?_
    | with_reducible refine w_gldN_tt ?_
    | with_reducible refine w_gldN_ff ?_
    | with_reducible refine w_gldN_tf ?_
    | with_reducible refine w_gldN_ft ?_
    | with_reducible refine w_gB_tt ?_
    | with_reducible refine w_gB_ff ?_
    | with_reducible refine w_bind un_not ?_
    | with_reducible refine w_cond_t ?_
    | with_reducible refine w_cond_f ?_
    | with_reducible refine w_bind gV_u ?_
    | with_reducible refine w_bind gB_u ?_
    | with_reducible refine w_gld_u ?_)
  repeat (first
    | with_reducible refine w_newC (by assumption) fun _ _ _ => ?_
    | with_reducible refine w_new (by assumption) fun _ _ _ => ?_
    | with_reducible refine w_map (by assumption) fun _ _ _ => ?_
    | with_reducible refine w_S ?_
    | with_reducible refine w_R (by assumption) fun _ _ _ => ?_
    | refine w_LdN (by assumption) ?_
    | refine w_ld (by assumption) end_nf rfl ?_
    | refine w_ld (by assumption) end_f0 rfl ?_
    | refine w_ldN (by assumption) end_nf ?_
    | refine w_ldN (by assumption) end_f0 ?_
    | with_reducible refine w_ad end_nf ?_
    | with_reducible refine w_ad end_f0 ?_
    | refine w_Ld1 (by assumption) rfl ?_
    | refine w_st (by assumption) end_nf rfl rfl fun _ _ => ?_
    | refine w_st (by assumption) end_f0 rfl rfl fun _ _ => ?_
    | refine w_St (by assumption) rfl rfl fun _ _ => ?_
    | refine w_eqK_rfl ?_
    | refine w_eq1 (by assumption) (by assumption) rfl ?_
    | refine w_eqN (by assumption) (by assumption) rfl ?_
    | refine w_len ?_)
  repeat (first
    | with_reducible refine w_bind (pick_t _ _) ?_
    | with_reducible refine w_bind (pick_f _ _) ?_
    | with_reducible refine w_bind gV_tt ?_
    | with_reducible refine w_bind gV_ff ?_
    | with_reducible refine w_bind gV_tf ?_
    | with_reducible refine w_bind gV_ft ?_
    | with_reducible refine w_bind gB_tf ?_
    | with_reducible refine w_bind gB_ft ?_
    | with_reducible refine w_gE_tf ?_
    | with_reducible refine w_gE_ft ?_
    | with_reducible refine w_gE_tt ?_
    | with_reducible refine w_gE_ff ?_
    | with_reducible refine w_onK_tf ?_
    | with_reducible refine w_onK_ft ?_
    | with_reducible refine w_onK_tt ?_
    | with_reducible refine w_onK_ff ?_
    | with_reducible refine w_gld_tt ?_
    | with_reducible refine w_gld_ff ?_
    | with_reducible refine w_gld_tf ?_
    | with_reducible refine w_gld_ft ?_
    | with_reducible refine w_gldN_tt ?_
    | with_reducible refine w_gldN_ff ?_
    | with_reducible refine w_gldN_tf ?_
    | with_reducible refine w_gldN_ft ?_
    | with_reducible refine w_gB_tt ?_
    | with_reducible refine w_gB_ff ?_
    | with_reducible refine w_bind un_not ?_
    | with_reducible refine w_cond_t ?_
    | with_reducible refine w_cond_f ?_
    | with_reducible refine w_bind gV_u ?_
    | with_reducible refine w_bind gB_u ?_
    | with_reducible refine w_gld_u ?_)
  refine w_mkRB (by assumption) rfl fun b6 H6 h6 => ?_
  repeat (first
    | with_reducible refine w_bind (pick_t _ _) ?_
    | with_reducible refine w_bind (pick_f _ _) ?_
    | with_reducible refine w_bind gV_tt ?_
    | with_reducible refine w_bind gV_ff ?_
    | with_reducible refine w_bind gV_tf ?_
    | with_reducible refine w_bind gV_ft ?_
    | with_reducible refine w_bind gB_tf ?_
    | with_reducible refine w_bind gB_ft ?_
    | with_reducible refine w_gE_tf ?_
    | with_reducible refine w_gE_ft ?_
    | with_reducible refine w_gE_tt ?_
    | with_reducible refine w_gE_ff ?_
    | with_reducible refine w_onK_tf ?_
    | with_reducible refine w_onK_ft ?_
    | with_reducible refine w_onK_tt ?_
    | with_reducible refine w_onK_ff ?_
    | with_reducible refine w_gld_tt ?_
    | with_reducible refine w_gld_ff ?_
    | with_reducible refine w_gld_tf ?_
    | with_reducible refine w_gld_ft ?_
    | with_reducible refine w_gldN_tt ?_
    | with_reducible refine w_gldN_ff ?_
    | with_reducible refine w_gldN_tf ?_
    | with_reducible refine w_gldN_ft ?_
    | with_reducible refine w_gB_tt ?_
    | with_reducible refine w_gB_ff ?_
    | with_reducible refine w_bind un_not ?_
    | with_reducible refine w_cond_t ?_
    | with_reducible refine w_cond_f ?_
    | with_reducible refine w_bind gV_u ?_
    | with_reducible refine w_bind gB_u ?_
    | with_reducible refine w_gld_u ?_)
  have r6 := row_of (l := [⟨u, 4, (11, a, 0)⟩, ⟨w, 3, (11, a, 0)⟩]) h6 rfl
  refine w_ro r6 (pace_tries (s := vs b6 2 5) (l := [⟨u, 4, (11, a, 0)⟩, ⟨w, 3, (11, a, 0)⟩]) (by simp)) fun K6 k6 => ?_
  rw [t6]
  repeat (first
    | with_reducible refine w_bind (pick_t _ _) ?_
    | with_reducible refine w_bind (pick_f _ _) ?_
    | with_reducible refine w_bind gV_tt ?_
    | with_reducible refine w_bind gV_ff ?_
    | with_reducible refine w_bind gV_tf ?_
    | with_reducible refine w_bind gV_ft ?_
    | with_reducible refine w_bind gB_tf ?_
    | with_reducible refine w_bind gB_ft ?_
    | with_reducible refine w_gE_tf ?_
    | with_reducible refine w_gE_ft ?_
    | with_reducible refine w_gE_tt ?_
    | with_reducible refine w_gE_ff ?_
    | with_reducible refine w_onK_tf ?_
    | with_reducible refine w_onK_ft ?_
    | with_reducible refine w_onK_tt ?_
    | with_reducible refine w_onK_ff ?_
    | with_reducible refine w_gld_tt ?_
    | with_reducible refine w_gld_ff ?_
    | with_reducible refine w_gld_tf ?_
    | with_reducible refine w_gld_ft ?_
    | with_reducible refine w_gldN_tt ?_
    | with_reducible refine w_gldN_ff ?_
    | with_reducible refine w_gldN_tf ?_
    | with_reducible refine w_gldN_ft ?_
    | with_reducible refine w_gB_tt ?_
    | with_reducible refine w_gB_ff ?_
    | with_reducible refine w_bind un_not ?_
    | with_reducible refine w_cond_t ?_
    | with_reducible refine w_cond_f ?_
    | with_reducible refine w_bind gV_u ?_
    | with_reducible refine w_bind gB_u ?_
    | with_reducible refine w_gld_u ?_)
  repeat (first
    | with_reducible refine w_bind (pick_t _ _) ?_
    | with_reducible refine w_bind (pick_f _ _) ?_
    | with_reducible refine w_bind gV_tt ?_
    | with_reducible refine w_bind gV_ff ?_
    | with_reducible refine w_bind gV_tf ?_
    | with_reducible refine w_bind gV_ft ?_
    | with_reducible refine w_bind gB_tf ?_
    | with_reducible refine w_bind gB_ft ?_
    | with_reducible refine w_gE_tf ?_
    | with_reducible refine w_gE_ft ?_
    | with_reducible refine w_gE_tt ?_
    | with_reducible refine w_gE_ff ?_
    | with_reducible refine w_onK_tf ?_
    | with_reducible refine w_onK_ft ?_
    | with_reducible refine w_onK_tt ?_
    | with_reducible refine w_onK_ff ?_
    | with_reducible refine w_gld_tt ?_
    | with_reducible refine w_gld_ff ?_
    | with_reducible refine w_gld_tf ?_
    | with_reducible refine w_gld_ft ?_
    | with_reducible refine w_gldN_tt ?_
    | with_reducible refine w_gldN_ff ?_
    | with_reducible refine w_gldN_tf ?_
    | with_reducible refine w_gldN_ft ?_
    | with_reducible refine w_gB_tt ?_
    | with_reducible refine w_gB_ff ?_
    | with_reducible refine w_bind un_not ?_
    | with_reducible refine w_cond_t ?_
    | with_reducible refine w_cond_f ?_
    | with_reducible refine w_bind gV_u ?_
    | with_reducible refine w_bind gB_u ?_
    | with_reducible refine w_gld_u ?_)
  repeat (first
    | with_reducible refine w_newC (by assumption) fun _ _ _ => ?_
    | with_reducible refine w_new (by assumption) fun _ _ _ => ?_
    | with_reducible refine w_map (by assumption) fun _ _ _ => ?_
    | with_reducible refine w_S ?_
    | with_reducible refine w_R (by assumption) fun _ _ _ => ?_
    | refine w_LdN (by assumption) ?_
    | refine w_ld (by assumption) end_nf rfl ?_
    | refine w_ld (by assumption) end_f0 rfl ?_
    | refine w_ldN (by assumption) end_nf ?_
    | refine w_ldN (by assumption) end_f0 ?_
    | with_reducible refine w_ad end_nf ?_
    | with_reducible refine w_ad end_f0 ?_
    | refine w_Ld1 (by assumption) rfl ?_
    | refine w_st (by assumption) end_nf rfl rfl fun _ _ => ?_
    | refine w_st (by assumption) end_f0 rfl rfl fun _ _ => ?_
    | refine w_St (by assumption) rfl rfl fun _ _ => ?_
    | refine w_eqK_rfl ?_
    | refine w_eq1 (by assumption) (by assumption) rfl ?_
    | refine w_eqN (by assumption) (by assumption) rfl ?_
    | refine w_len ?_)
  repeat (first
    | with_reducible refine w_bind (pick_t _ _) ?_
    | with_reducible refine w_bind (pick_f _ _) ?_
    | with_reducible refine w_bind gV_tt ?_
    | with_reducible refine w_bind gV_ff ?_
    | with_reducible refine w_bind gV_tf ?_
    | with_reducible refine w_bind gV_ft ?_
    | with_reducible refine w_bind gB_tf ?_
    | with_reducible refine w_bind gB_ft ?_
    | with_reducible refine w_gE_tf ?_
    | with_reducible refine w_gE_ft ?_
    | with_reducible refine w_gE_tt ?_
    | with_reducible refine w_gE_ff ?_
    | with_reducible refine w_onK_tf ?_
    | with_reducible refine w_onK_ft ?_
    | with_reducible refine w_onK_tt ?_
    | with_reducible refine w_onK_ff ?_
    | with_reducible refine w_gld_tt ?_
    | with_reducible refine w_gld_ff ?_
    | with_reducible refine w_gld_tf ?_
    | with_reducible refine w_gld_ft ?_
    | with_reducible refine w_gldN_tt ?_
    | with_reducible refine w_gldN_ff ?_
    | with_reducible refine w_gldN_tf ?_
    | with_reducible refine w_gldN_ft ?_
    | with_reducible refine w_gB_tt ?_
    | with_reducible refine w_gB_ff ?_
    | with_reducible refine w_bind un_not ?_
    | with_reducible refine w_cond_t ?_
    | with_reducible refine w_cond_f ?_
    | with_reducible refine w_bind gV_u ?_
    | with_reducible refine w_bind gB_u ?_
    | with_reducible refine w_gld_u ?_)
  repeat (first
    | with_reducible refine w_newC (by assumption) fun _ _ _ => ?_
    | with_reducible refine w_new (by assumption) fun _ _ _ => ?_
    | with_reducible refine w_map (by assumption) fun _ _ _ => ?_
    | with_reducible refine w_S ?_
    | with_reducible refine w_R (by assumption) fun _ _ _ => ?_
    | refine w_LdN (by assumption) ?_
    | refine w_ld (by assumption) end_nf rfl ?_
    | refine w_ld (by assumption) end_f0 rfl ?_
    | refine w_ldN (by assumption) end_nf ?_
    | refine w_ldN (by assumption) end_f0 ?_
    | with_reducible refine w_ad end_nf ?_
    | with_reducible refine w_ad end_f0 ?_
    | refine w_Ld1 (by assumption) rfl ?_
    | refine w_st (by assumption) end_nf rfl rfl fun _ _ => ?_
    | refine w_st (by assumption) end_f0 rfl rfl fun _ _ => ?_
    | refine w_St (by assumption) rfl rfl fun _ _ => ?_
    | refine w_eqK_rfl ?_
    | refine w_eq1 (by assumption) (by assumption) rfl ?_
    | refine w_eqN (by assumption) (by assumption) rfl ?_
    | refine w_len ?_)
  repeat (first
    | with_reducible refine w_bind (pick_t _ _) ?_
    | with_reducible refine w_bind (pick_f _ _) ?_
    | with_reducible refine w_bind gV_tt ?_
    | with_reducible refine w_bind gV_ff ?_
    | with_reducible refine w_bind gV_tf ?_
    | with_reducible refine w_bind gV_ft ?_
    | with_reducible refine w_bind gB_tf ?_
    | with_reducible refine w_bind gB_ft ?_
    | with_reducible refine w_gE_tf ?_
    | with_reducible refine w_gE_ft ?_
    | with_reducible refine w_gE_tt ?_
    | with_reducible refine w_gE_ff ?_
    | with_reducible refine w_onK_tf ?_
    | with_reducible refine w_onK_ft ?_
    | with_reducible refine w_onK_tt ?_
    | with_reducible refine w_onK_ff ?_
    | with_reducible refine w_gld_tt ?_
    | with_reducible refine w_gld_ff ?_
    | with_reducible refine w_gld_tf ?_
    | with_reducible refine w_gld_ft ?_
    | with_reducible refine w_gldN_tt ?_
    | with_reducible refine w_gldN_ff ?_
    | with_reducible refine w_gldN_tf ?_
    | with_reducible refine w_gldN_ft ?_
    | with_reducible refine w_gB_tt ?_
    | with_reducible refine w_gB_ff ?_
    | with_reducible refine w_bind un_not ?_
    | with_reducible refine w_cond_t ?_
    | with_reducible refine w_cond_f ?_
    | with_reducible refine w_bind gV_u ?_
    | with_reducible refine w_bind gB_u ?_
    | with_reducible refine w_gld_u ?_)
  repeat (first
    | with_reducible refine w_newC (by assumption) fun _ _ _ => ?_
    | with_reducible refine w_new (by assumption) fun _ _ _ => ?_
    | with_reducible refine w_map (by assumption) fun _ _ _ => ?_
    | with_reducible refine w_S ?_
    | with_reducible refine w_R (by assumption) fun _ _ _ => ?_
    | refine w_LdN (by assumption) ?_
    | refine w_ld (by assumption) end_nf rfl ?_
    | refine w_ld (by assumption) end_f0 rfl ?_
    | refine w_ldN (by assumption) end_nf ?_
    | refine w_ldN (by assumption) end_f0 ?_
    | with_reducible refine w_ad end_nf ?_
    | with_reducible refine w_ad end_f0 ?_
    | refine w_Ld1 (by assumption) rfl ?_
    | refine w_st (by assumption) end_nf rfl rfl fun _ _ => ?_
    | refine w_st (by assumption) end_f0 rfl rfl fun _ _ => ?_
    | refine w_St (by assumption) rfl rfl fun _ _ => ?_
    | refine w_eqK_rfl ?_
    | refine w_eq1 (by assumption) (by assumption) rfl ?_
    | refine w_eqN (by assumption) (by assumption) rfl ?_
    | refine w_len ?_)
  repeat (first
    | with_reducible refine w_bind (pick_t _ _) ?_
    | with_reducible refine w_bind (pick_f _ _) ?_
    | with_reducible refine w_bind gV_tt ?_
    | with_reducible refine w_bind gV_ff ?_
    | with_reducible refine w_bind gV_tf ?_
    | with_reducible refine w_bind gV_ft ?_
    | with_reducible refine w_bind gB_tf ?_
    | with_reducible refine w_bind gB_ft ?_
    | with_reducible refine w_gE_tf ?_
    | with_reducible refine w_gE_ft ?_
    | with_reducible refine w_gE_tt ?_
    | with_reducible refine w_gE_ff ?_
    | with_reducible refine w_onK_tf ?_
    | with_reducible refine w_onK_ft ?_
    | with_reducible refine w_onK_tt ?_
    | with_reducible refine w_onK_ff ?_
    | with_reducible refine w_gld_tt ?_
    | with_reducible refine w_gld_ff ?_
    | with_reducible refine w_gld_tf ?_
    | with_reducible refine w_gld_ft ?_
    | with_reducible refine w_gldN_tt ?_
    | with_reducible refine w_gldN_ff ?_
    | with_reducible refine w_gldN_tf ?_
    | with_reducible refine w_gldN_ft ?_
    | with_reducible refine w_gB_tt ?_
    | with_reducible refine w_gB_ff ?_
    | with_reducible refine w_bind un_not ?_
    | with_reducible refine w_cond_t ?_
    | with_reducible refine w_cond_f ?_
    | with_reducible refine w_bind gV_u ?_
    | with_reducible refine w_bind gB_u ?_
    | with_reducible refine w_gld_u ?_)
  repeat (first
    | with_reducible refine w_newC (by assumption) fun _ _ _ => ?_
    | with_reducible refine w_new (by assumption) fun _ _ _ => ?_
    | with_reducible refine w_map (by assumption) fun _ _ _ => ?_
    | with_reducible refine w_S ?_
    | with_reducible refine w_R (by assumption) fun _ _ _ => ?_
    | refine w_LdN (by assumption) ?_
    | refine w_ld (by assumption) end_nf rfl ?_
    | refine w_ld (by assumption) end_f0 rfl ?_
    | refine w_ldN (by assumption) end_nf ?_
    | refine w_ldN (by assumption) end_f0 ?_
    | with_reducible refine w_ad end_nf ?_
    | with_reducible refine w_ad end_f0 ?_
    | refine w_Ld1 (by assumption) rfl ?_
    | refine w_st (by assumption) end_nf rfl rfl fun _ _ => ?_
    | refine w_st (by assumption) end_f0 rfl rfl fun _ _ => ?_
    | refine w_St (by assumption) rfl rfl fun _ _ => ?_
    | refine w_eqK_rfl ?_
    | refine w_eq1 (by assumption) (by assumption) rfl ?_
    | refine w_eqN (by assumption) (by assumption) rfl ?_
    | refine w_len ?_)
  repeat (first
    | with_reducible refine w_bind (pick_t _ _) ?_
    | with_reducible refine w_bind (pick_f _ _) ?_
    | with_reducible refine w_bind gV_tt ?_
    | with_reducible refine w_bind gV_ff ?_
    | with_reducible refine w_bind gV_tf ?_
    | with_reducible refine w_bind gV_ft ?_
    | with_reducible refine w_bind gB_tf ?_
    | with_reducible refine w_bind gB_ft ?_
    | with_reducible refine w_gE_tf ?_
    | with_reducible refine w_gE_ft ?_
    | with_reducible refine w_gE_tt ?_
    | with_reducible refine w_gE_ff ?_
    | with_reducible refine w_onK_tf ?_
    | with_reducible refine w_onK_ft ?_
    | with_reducible refine w_onK_tt ?_
    | with_reducible refine w_onK_ff ?_
    | with_reducible refine w_gld_tt ?_
    | with_reducible refine w_gld_ff ?_
    | with_reducible refine w_gld_tf ?_
    | with_reducible refine w_gld_ft ?_
    | with_reducible refine w_gldN_tt ?_
    | with_reducible refine w_gldN_ff ?_
    | with_reducible refine w_gldN_tf ?_
    | with_reducible refine w_gldN_ft ?_
    | with_reducible refine w_gB_tt ?_
    | with_reducible refine w_gB_ff ?_
    | with_reducible refine w_bind un_not ?_
    | with_reducible refine w_cond_t ?_
    | with_reducible refine w_cond_f ?_
    | with_reducible refine w_bind gV_u ?_
    | with_reducible refine w_bind gB_u ?_
    | with_reducible refine w_gld_u ?_)
  repeat (first
    | with_reducible refine w_newC (by assumption) fun _ _ _ => ?_
    | with_reducible refine w_new (by assumption) fun _ _ _ => ?_
    | with_reducible refine w_map (by assumption) fun _ _ _ => ?_
    | with_reducible refine w_S ?_
    | with_reducible refine w_R (by assumption) fun _ _ _ => ?_
    | refine w_LdN (by assumption) ?_
    | refine w_ld (by assumption) end_nf rfl ?_
    | refine w_ld (by assumption) end_f0 rfl ?_
    | refine w_ldN (by assumption) end_nf ?_
    | refine w_ldN (by assumption) end_f0 ?_
    | with_reducible refine w_ad end_nf ?_
    | with_reducible refine w_ad end_f0 ?_
    | refine w_Ld1 (by assumption) rfl ?_
    | refine w_st (by assumption) end_nf rfl rfl fun _ _ => ?_
    | refine w_st (by assumption) end_f0 rfl rfl fun _ _ => ?_
    | refine w_St (by assumption) rfl rfl fun _ _ => ?_
    | refine w_eqK_rfl ?_
    | refine w_eq1 (by assumption) (by assumption) rfl ?_
    | refine w_eqN (by assumption) (by assumption) rfl ?_
    | refine w_len ?_)
  repeat (first
    | with_reducible refine w_bind (pick_t _ _) ?_
    | with_reducible refine w_bind (pick_f _ _) ?_
    | with_reducible refine w_bind gV_tt ?_
    | with_reducible refine w_bind gV_ff ?_
    | with_reducible refine w_bind gV_tf ?_
    | with_reducible refine w_bind gV_ft ?_
    | with_reducible refine w_bind gB_tf ?_
    | with_reducible refine w_bind gB_ft ?_
    | with_reducible refine w_gE_tf ?_
    | with_reducible refine w_gE_ft ?_
    | with_reducible refine w_gE_tt ?_
    | with_reducible refine w_gE_ff ?_
    | with_reducible refine w_onK_tf ?_
    | with_reducible refine w_onK_ft ?_
    | with_reducible refine w_onK_tt ?_
    | with_reducible refine w_onK_ff ?_
    | with_reducible refine w_gld_tt ?_
    | with_reducible refine w_gld_ff ?_
    | with_reducible refine w_gld_tf ?_
    | with_reducible refine w_gld_ft ?_
    | with_reducible refine w_gldN_tt ?_
    | with_reducible refine w_gldN_ff ?_
    | with_reducible refine w_gldN_tf ?_
    | with_reducible refine w_gldN_ft ?_
    | with_reducible refine w_gB_tt ?_
    | with_reducible refine w_gB_ff ?_
    | with_reducible refine w_bind un_not ?_
    | with_reducible refine w_cond_t ?_
    | with_reducible refine w_cond_f ?_
    | with_reducible refine w_bind gV_u ?_
    | with_reducible refine w_bind gB_u ?_
    | with_reducible refine w_gld_u ?_)
  refine w_mkRB (by assumption) rfl fun b7 H7 h7 => ?_
  repeat (first
    | with_reducible refine w_bind (pick_t _ _) ?_
    | with_reducible refine w_bind (pick_f _ _) ?_
    | with_reducible refine w_bind gV_tt ?_
    | with_reducible refine w_bind gV_ff ?_
    | with_reducible refine w_bind gV_tf ?_
    | with_reducible refine w_bind gV_ft ?_
    | with_reducible refine w_bind gB_tf ?_
    | with_reducible refine w_bind gB_ft ?_
    | with_reducible refine w_gE_tf ?_
    | with_reducible refine w_gE_ft ?_
    | with_reducible refine w_gE_tt ?_
    | with_reducible refine w_gE_ff ?_
    | with_reducible refine w_onK_tf ?_
    | with_reducible refine w_onK_ft ?_
    | with_reducible refine w_onK_tt ?_
    | with_reducible refine w_onK_ff ?_
    | with_reducible refine w_gld_tt ?_
    | with_reducible refine w_gld_ff ?_
    | with_reducible refine w_gld_tf ?_
    | with_reducible refine w_gld_ft ?_
    | with_reducible refine w_gldN_tt ?_
    | with_reducible refine w_gldN_ff ?_
    | with_reducible refine w_gldN_tf ?_
    | with_reducible refine w_gldN_ft ?_
    | with_reducible refine w_gB_tt ?_
    | with_reducible refine w_gB_ff ?_
    | with_reducible refine w_bind un_not ?_
    | with_reducible refine w_cond_t ?_
    | with_reducible refine w_cond_f ?_
    | with_reducible refine w_bind gV_u ?_
    | with_reducible refine w_bind gB_u ?_
    | with_reducible refine w_gld_u ?_)
  have r7 := row_of (l := [⟨u, 1, (11, a, 0)⟩, ⟨w, 3, (11, a, 0)⟩, ⟨u, 4, (11, a, 0)⟩, ⟨u, 1, (11, a, 0)⟩, ⟨u, 4, (11, a, 0)⟩]) h7 rfl
  refine w_ro r7 (pace_tries (s := vs b7 5 5) (l := [⟨u, 1, (11, a, 0)⟩, ⟨w, 3, (11, a, 0)⟩, ⟨u, 4, (11, a, 0)⟩, ⟨u, 1, (11, a, 0)⟩, ⟨u, 4, (11, a, 0)⟩]) (by simp)) fun K7 k7 => ?_
  rw [t7 hu rfl]
  repeat (first
    | with_reducible refine w_bind (pick_t _ _) ?_
    | with_reducible refine w_bind (pick_f _ _) ?_
    | with_reducible refine w_bind gV_tt ?_
    | with_reducible refine w_bind gV_ff ?_
    | with_reducible refine w_bind gV_tf ?_
    | with_reducible refine w_bind gV_ft ?_
    | with_reducible refine w_bind gB_tf ?_
    | with_reducible refine w_bind gB_ft ?_
    | with_reducible refine w_gE_tf ?_
    | with_reducible refine w_gE_ft ?_
    | with_reducible refine w_gE_tt ?_
    | with_reducible refine w_gE_ff ?_
    | with_reducible refine w_onK_tf ?_
    | with_reducible refine w_onK_ft ?_
    | with_reducible refine w_onK_tt ?_
    | with_reducible refine w_onK_ff ?_
    | with_reducible refine w_gld_tt ?_
    | with_reducible refine w_gld_ff ?_
    | with_reducible refine w_gld_tf ?_
    | with_reducible refine w_gld_ft ?_
    | with_reducible refine w_gldN_tt ?_
    | with_reducible refine w_gldN_ff ?_
    | with_reducible refine w_gldN_tf ?_
    | with_reducible refine w_gldN_ft ?_
    | with_reducible refine w_gB_tt ?_
    | with_reducible refine w_gB_ff ?_
    | with_reducible refine w_bind un_not ?_
    | with_reducible refine w_cond_t ?_
    | with_reducible refine w_cond_f ?_
    | with_reducible refine w_bind gV_u ?_
    | with_reducible refine w_bind gB_u ?_
    | with_reducible refine w_gld_u ?_)
  rw [Bool.not_false]
  repeat (first
    | with_reducible refine w_bind (pick_t _ _) ?_
    | with_reducible refine w_bind (pick_f _ _) ?_
    | with_reducible refine w_bind gV_tt ?_
    | with_reducible refine w_bind gV_ff ?_
    | with_reducible refine w_bind gV_tf ?_
    | with_reducible refine w_bind gV_ft ?_
    | with_reducible refine w_bind gB_tf ?_
    | with_reducible refine w_bind gB_ft ?_
    | with_reducible refine w_gE_tf ?_
    | with_reducible refine w_gE_ft ?_
    | with_reducible refine w_gE_tt ?_
    | with_reducible refine w_gE_ff ?_
    | with_reducible refine w_onK_tf ?_
    | with_reducible refine w_onK_ft ?_
    | with_reducible refine w_onK_tt ?_
    | with_reducible refine w_onK_ff ?_
    | with_reducible refine w_gld_tt ?_
    | with_reducible refine w_gld_ff ?_
    | with_reducible refine w_gld_tf ?_
    | with_reducible refine w_gld_ft ?_
    | with_reducible refine w_gldN_tt ?_
    | with_reducible refine w_gldN_ff ?_
    | with_reducible refine w_gldN_tf ?_
    | with_reducible refine w_gldN_ft ?_
    | with_reducible refine w_gB_tt ?_
    | with_reducible refine w_gB_ff ?_
    | with_reducible refine w_bind un_not ?_
    | with_reducible refine w_cond_t ?_
    | with_reducible refine w_cond_f ?_
    | with_reducible refine w_bind gV_u ?_
    | with_reducible refine w_bind gB_u ?_
    | with_reducible refine w_gld_u ?_)
  exact w_ret rfl
theorem paceOne {H0 : AH} (hT : H0.get 0 = some (.cells true tabC)) (u w a b : Int) (hu : -9223372036854775808 ≤ u ∧ u < 9223372036854775808) (ha : -9223372036854775808 ≤ a ∧ a < 9223372036854775808) : ∃ H', FF n_l29_PaceOne [vi u, vi w, vi a, vi b] H0 = some (vb true, H') := by
  have key : wp (FF n_l29_PaceOne [vi u, vi w, vi a, vi b] H0) fun v' _ => v' = vb true := by
    have h0 := fix_holds H0
    refine wp_of (fun r => l29_PaceOne_of _ _ _ _ H0) ?_
    refine wp_eq (l29_PaceOne_k0_eq _ _ _ _ _ H0) ?_
    have one : ∀ w' : Int, u ≠ w' → wp (l29_PaceOne_k1 (vi u) (vi w') (vi a) (vi b) (vb false) H0) fun v' _ => v' = vb true := by
      intro w' hw
      refine wp_eq (l29_PaceOne_k1_eq _ _ _ _ _ H0) ?_
      by_cases e : a = b
      · refine w_bind (eql_t e) ?_
        repeat (first
          | with_reducible refine w_bind (pick_t _ _) ?_
          | with_reducible refine w_bind (pick_f _ _) ?_
          | with_reducible refine w_bind gV_tt ?_
          | with_reducible refine w_bind gV_ff ?_
          | with_reducible refine w_bind gV_tf ?_
          | with_reducible refine w_bind gV_ft ?_
          | with_reducible refine w_bind gB_tf ?_
          | with_reducible refine w_bind gB_ft ?_
          | with_reducible refine w_gE_tf ?_
          | with_reducible refine w_gE_ft ?_
          | with_reducible refine w_gE_tt ?_
          | with_reducible refine w_gE_ff ?_
          | with_reducible refine w_onK_tf ?_
          | with_reducible refine w_onK_ft ?_
          | with_reducible refine w_onK_tt ?_
          | with_reducible refine w_onK_ff ?_
          | with_reducible refine w_gld_tt ?_
          | with_reducible refine w_gld_ff ?_
          | with_reducible refine w_gld_tf ?_
          | with_reducible refine w_gld_ft ?_
          | with_reducible refine w_gldN_tt ?_
          | with_reducible refine w_gldN_ff ?_
          | with_reducible refine w_gldN_tf ?_
          | with_reducible refine w_gldN_ft ?_
          | with_reducible refine w_gB_tt ?_
          | with_reducible refine w_gB_ff ?_
          | with_reducible refine w_bind un_not ?_
          | with_reducible refine w_cond_t ?_
          | with_reducible refine w_cond_f ?_
          | with_reducible refine w_bind gV_u ?_
          | with_reducible refine w_bind gB_u ?_
          | with_reducible refine w_gld_u ?_)
        obtain ⟨b', hb', hne⟩ := xor_one (cl := .other) ha.1 ha.2
        refine w_bind (hb') ?_
        exact one_tail hT hw hne _ h0
      · refine w_bind (eql_f e) ?_
        repeat (first
          | with_reducible refine w_bind (pick_t _ _) ?_
          | with_reducible refine w_bind (pick_f _ _) ?_
          | with_reducible refine w_bind gV_tt ?_
          | with_reducible refine w_bind gV_ff ?_
          | with_reducible refine w_bind gV_tf ?_
          | with_reducible refine w_bind gV_ft ?_
          | with_reducible refine w_bind gB_tf ?_
          | with_reducible refine w_bind gB_ft ?_
          | with_reducible refine w_gE_tf ?_
          | with_reducible refine w_gE_ft ?_
          | with_reducible refine w_gE_tt ?_
          | with_reducible refine w_gE_ff ?_
          | with_reducible refine w_onK_tf ?_
          | with_reducible refine w_onK_ft ?_
          | with_reducible refine w_onK_tt ?_
          | with_reducible refine w_onK_ff ?_
          | with_reducible refine w_gld_tt ?_
          | with_reducible refine w_gld_ff ?_
          | with_reducible refine w_gld_tf ?_
          | with_reducible refine w_gld_ft ?_
          | with_reducible refine w_gldN_tt ?_
          | with_reducible refine w_gldN_ff ?_
          | with_reducible refine w_gldN_tf ?_
          | with_reducible refine w_gldN_ft ?_
          | with_reducible refine w_gB_tt ?_
          | with_reducible refine w_gB_ff ?_
          | with_reducible refine w_bind un_not ?_
          | with_reducible refine w_cond_t ?_
          | with_reducible refine w_cond_f ?_
          | with_reducible refine w_bind gV_u ?_
          | with_reducible refine w_bind gB_u ?_
          | with_reducible refine w_gld_u ?_)
        exact one_tail hT hw e _ h0
    by_cases e : u = w
    · refine w_bind (eql_t e) ?_
      repeat (first
        | with_reducible refine w_bind (pick_t _ _) ?_
        | with_reducible refine w_bind (pick_f _ _) ?_
        | with_reducible refine w_bind gV_tt ?_
        | with_reducible refine w_bind gV_ff ?_
        | with_reducible refine w_bind gV_tf ?_
        | with_reducible refine w_bind gV_ft ?_
        | with_reducible refine w_bind gB_tf ?_
        | with_reducible refine w_bind gB_ft ?_
        | with_reducible refine w_gE_tf ?_
        | with_reducible refine w_gE_ft ?_
        | with_reducible refine w_gE_tt ?_
        | with_reducible refine w_gE_ff ?_
        | with_reducible refine w_onK_tf ?_
        | with_reducible refine w_onK_ft ?_
        | with_reducible refine w_onK_tt ?_
        | with_reducible refine w_onK_ff ?_
        | with_reducible refine w_gld_tt ?_
        | with_reducible refine w_gld_ff ?_
        | with_reducible refine w_gld_tf ?_
        | with_reducible refine w_gld_ft ?_
        | with_reducible refine w_gldN_tt ?_
        | with_reducible refine w_gldN_ff ?_
        | with_reducible refine w_gldN_tf ?_
        | with_reducible refine w_gldN_ft ?_
        | with_reducible refine w_gB_tt ?_
        | with_reducible refine w_gB_ff ?_
        | with_reducible refine w_bind un_not ?_
        | with_reducible refine w_cond_t ?_
        | with_reducible refine w_cond_f ?_
        | with_reducible refine w_bind gV_u ?_
        | with_reducible refine w_bind gB_u ?_
        | with_reducible refine w_gld_u ?_)
      obtain ⟨w', hw', hne⟩ := xor_one (cl := .other) hu.1 hu.2
      refine w_bind (hw') ?_
      exact one w' hne
    · refine w_bind (eql_f e) ?_
      repeat (first
        | with_reducible refine w_bind (pick_t _ _) ?_
        | with_reducible refine w_bind (pick_f _ _) ?_
        | with_reducible refine w_bind gV_tt ?_
        | with_reducible refine w_bind gV_ff ?_
        | with_reducible refine w_bind gV_tf ?_
        | with_reducible refine w_bind gV_ft ?_
        | with_reducible refine w_bind gB_tf ?_
        | with_reducible refine w_bind gB_ft ?_
        | with_reducible refine w_gE_tf ?_
        | with_reducible refine w_gE_ft ?_
        | with_reducible refine w_gE_tt ?_
        | with_reducible refine w_gE_ff ?_
        | with_reducible refine w_onK_tf ?_
        | with_reducible refine w_onK_ft ?_
        | with_reducible refine w_onK_tt ?_
        | with_reducible refine w_onK_ff ?_
        | with_reducible refine w_gld_tt ?_
        | with_reducible refine w_gld_ff ?_
        | with_reducible refine w_gld_tf ?_
        | with_reducible refine w_gld_ft ?_
        | with_reducible refine w_gldN_tt ?_
        | with_reducible refine w_gldN_ff ?_
        | with_reducible refine w_gldN_tf ?_
        | with_reducible refine w_gldN_ft ?_
        | with_reducible refine w_gB_tt ?_
        | with_reducible refine w_gB_ff ?_
        | with_reducible refine w_bind un_not ?_
        | with_reducible refine w_cond_t ?_
        | with_reducible refine w_cond_f ?_
        | with_reducible refine w_bind gV_u ?_
        | with_reducible refine w_bind gB_u ?_
        | with_reducible refine w_gld_u ?_)
      exact one w e
  obtain ⟨v', H', e, rfl⟩ := key
  exact ⟨H', e⟩
end Go.Proofs.YtbjelopcelompaaGreatDoor.Gst
