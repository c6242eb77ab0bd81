/- The statements on windows, of the abstract run. -/
import Derived.Test.YtbjelopcelompaaGreatDoorQd
import Derived.Test.YtbjelopcelompaaGreatDoorVk
namespace Go.Proofs.YtbjelopcelompaaGreatDoor.Gst
open Go Go.RowKit
set_option linter.unusedSimpArgs false
set_option linter.unusedVariables false
set_option maxHeartbeats 1000000

/-! ### The closed call -/
theorem Holds.keeps {P : SP} {H H' : AH} (h : Holds P H) (k : ∀ i, i < H.size → H'.get i = H.get i) : Holds P H' := by
  obtain ⟨x, hx, hg⟩ := h
  exact ⟨x, hx, fun i o hi => by
    have := hg i o hi
    rw [k i (AH.lt_of_get this)]; exact this⟩
theorem w_awake {P : SP} {H : AH} {k : Value × AH → OV} {Q : Value → AH → Prop} (h : Holds P H) [i : Hs P 0 (.cells true tabC)] (hk : ∀ H', Holds P H' → wp (k (vb true, H')) Q) : wp ((FF n_l29_awake [] H).bind k) Q := by
  have hD : ∀ j ∈ [247], Harmless PP j := fun j hj => by
    have : j = 247 := by simpa using hj
    subst this
    exact harmless
  obtain ⟨H', e, _, hg⟩ := closed_law (D := [247]) hD (by decide) awake_run (i.get h)
  have e' : FF n_l29_awake [] H = some (vb true, H') := e
  rw [e']
  exact hk H' (h.keeps hg)
theorem args_tab {H0 : AH} (hT : H0.get 0 = some (.cells true tabC)) : Hs (fix H0) 0 (.cells true tabC) := ⟨fun h => (Fx.refl H0).fx h 0 _ hT⟩
theorem args_ints {H0 : AH} {v : Value} {l : List Int} (h : Abs H0 (.slice (.int .i64)) l [v]) : Rd (fix H0) v 1 encI l :=
  Rd.arg (t := .int .i64) (enc := encI) (E := inferInstanceAs (Enc encI 1)) (fun x c h => h.1) h

section
variable {H0 : AH} {v : Value} {l : List Int}
theorem even_tail (hT : H0.get 0 = some (.cells true tabC)) (n k : Int) (hn : n < 9223372036854775808) (x8 : Value) {x9 : Value} {m : List Int} {H : AH} (hm : m.length ≤ 60) (h : Holds (ts 1 encI x9 m * fix H0) H) :
    wp (l29_PaceEven_k2 (vi n) (vi k) x8 x9 H) fun v' _ => v' = vb true := by
  haveI := args_tab hT
  refine wp_eq (l29_PaceEven_k2_eq _ _ _ _ H) ?_
  refine w_awake h fun H1 h1 => ?_
  repeat (first
    | with_reducible refine w_bind (pick_t _ _) ?_
    | with_reducible refine w_bind (pick_f _ _) ?_
    | with_reducible refine w_bind gV_tt ?_
    | with_reducible refine w_bind gV_ff ?_
    | with_reducible refine w_bind gV_tf ?_
    | with_reducible refine w_bind gV_ft ?_
    | with_reducible refine w_bind gB_tf ?_
    | with_reducible refine w_bind gB_ft ?_
    | with_reducible refine w_gE_tf ?_
    | with_reducible refine w_gE_ft ?_
    | with_reducible refine w_gE_tt ?_
    | with_reducible refine w_gE_ff ?_
    | with_reducible refine w_onK_tf ?_
    | with_reducible refine w_onK_ft ?_
    | with_reducible refine w_onK_tt ?_
    | with_reducible refine w_onK_ff ?_
    | with_reducible refine w_gld_tt ?_
    | with_reducible refine w_gld_ff ?_
    | with_reducible refine w_gld_tf ?_
    | with_reducible refine w_gld_ft ?_
    | with_reducible refine w_gldN_tt ?_
    | with_reducible refine w_gldN_ff ?_
    | with_reducible refine w_gldN_tf ?_
    | with_reducible refine w_gldN_ft ?_
    | with_reducible refine w_gB_tt ?_
    | with_reducible refine w_gB_ff ?_
    | with_reducible refine w_bind un_not ?_
    | with_reducible refine w_cond_t ?_
    | with_reducible refine w_cond_f ?_
    | with_reducible refine w_bind gV_u ?_
    | with_reducible refine w_bind gB_u ?_
    | with_reducible refine w_gld_u ?_)
  refine w_ro h1 (pace_even (s := x9) (l := m) (by omega) n k) fun H2 h2 => ?_
  repeat (first
    | with_reducible refine w_bind (pick_t _ _) ?_
    | with_reducible refine w_bind (pick_f _ _) ?_
    | with_reducible refine w_bind gV_tt ?_
    | with_reducible refine w_bind gV_ff ?_
    | with_reducible refine w_bind gV_tf ?_
    | with_reducible refine w_bind gV_ft ?_
    | with_reducible refine w_bind gB_tf ?_
    | with_reducible refine w_bind gB_ft ?_
    | with_reducible refine w_gE_tf ?_
    | with_reducible refine w_gE_ft ?_
    | with_reducible refine w_gE_tt ?_
    | with_reducible refine w_gE_ff ?_
    | with_reducible refine w_onK_tf ?_
    | with_reducible refine w_onK_ft ?_
    | with_reducible refine w_onK_tt ?_
    | with_reducible refine w_onK_ff ?_
    | with_reducible refine w_gld_tt ?_
    | with_reducible refine w_gld_ff ?_
    | with_reducible refine w_gld_tf ?_
    | with_reducible refine w_gld_ft ?_
    | with_reducible refine w_gldN_tt ?_
    | with_reducible refine w_gldN_ff ?_
    | with_reducible refine w_gldN_tf ?_
    | with_reducible refine w_gldN_ft ?_
    | with_reducible refine w_gB_tt ?_
    | with_reducible refine w_gB_ff ?_
    | with_reducible refine w_bind un_not ?_
    | with_reducible refine w_cond_t ?_
    | with_reducible refine w_cond_f ?_
    | with_reducible refine w_bind gV_u ?_
    | with_reducible refine w_bind gB_u ?_
    | with_reducible refine w_gld_u ?_)
  refine w_ro h2 (r27_even (s := x9) (l := m) (by omega) n k hn) fun H3 h3 => ?_
  repeat (first
    | with_reducible refine w_bind (pick_t _ _) ?_
    | with_reducible refine w_bind (pick_f _ _) ?_
    | with_reducible refine w_bind gV_tt ?_
    | with_reducible refine w_bind gV_ff ?_
    | with_reducible refine w_bind gV_tf ?_
    | with_reducible refine w_bind gV_ft ?_
    | with_reducible refine w_bind gB_tf ?_
    | with_reducible refine w_bind gB_ft ?_
    | with_reducible refine w_gE_tf ?_
    | with_reducible refine w_gE_ft ?_
    | with_reducible refine w_gE_tt ?_
    | with_reducible refine w_gE_ff ?_
    | with_reducible refine w_onK_tf ?_
    | with_reducible refine w_onK_ft ?_
    | with_reducible refine w_onK_tt ?_
    | with_reducible refine w_onK_ff ?_
    | with_reducible refine w_gld_tt ?_
    | with_reducible refine w_gld_ff ?_
    | with_reducible refine w_gld_tf ?_
    | with_reducible refine w_gld_ft ?_
    | with_reducible refine w_gldN_tt ?_
    | with_reducible refine w_gldN_ff ?_
    | with_reducible refine w_gldN_tf ?_
    | with_reducible refine w_gldN_ft ?_
    | with_reducible refine w_gB_tt ?_
    | with_reducible refine w_gB_ff ?_
    | with_reducible refine w_bind un_not ?_
    | with_reducible refine w_cond_t ?_
    | with_reducible refine w_cond_f ?_
    | with_reducible refine w_bind gV_u ?_
    | with_reducible refine w_bind gB_u ?_
    | with_reducible refine w_gld_u ?_)
  refine w_bind (bin_eqb) ?_
  rw [beq_self_eq_true]
  repeat (first
    | with_reducible refine w_bind (pick_t _ _) ?_
    | with_reducible refine w_bind (pick_f _ _) ?_
    | with_reducible refine w_bind gV_tt ?_
    | with_reducible refine w_bind gV_ff ?_
    | with_reducible refine w_bind gV_tf ?_
    | with_reducible refine w_bind gV_ft ?_
    | with_reducible refine w_bind gB_tf ?_
    | with_reducible refine w_bind gB_ft ?_
    | with_reducible refine w_gE_tf ?_
    | with_reducible refine w_gE_ft ?_
    | with_reducible refine w_gE_tt ?_
    | with_reducible refine w_gE_ff ?_
    | with_reducible refine w_onK_tf ?_
    | with_reducible refine w_onK_ft ?_
    | with_reducible refine w_onK_tt ?_
    | with_reducible refine w_onK_ff ?_
    | with_reducible refine w_gld_tt ?_
    | with_reducible refine w_gld_ff ?_
    | with_reducible refine w_gld_tf ?_
    | with_reducible refine w_gld_ft ?_
    | with_reducible refine w_gldN_tt ?_
    | with_reducible refine w_gldN_ff ?_
    | with_reducible refine w_gldN_tf ?_
    | with_reducible refine w_gldN_ft ?_
    | with_reducible refine w_gB_tt ?_
    | with_reducible refine w_gB_ff ?_
    | with_reducible refine w_bind un_not ?_
    | with_reducible refine w_cond_t ?_
    | with_reducible refine w_cond_f ?_
    | with_reducible refine w_bind gV_u ?_
    | with_reducible refine w_bind gB_u ?_
    | with_reducible refine w_gld_u ?_)
  exact w_ret rfl
theorem paceEven (hT : H0.get 0 = some (.cells true tabC)) (hl : Abs H0 (.slice (.int .i64)) l [v]) (n k : Int) (hn : n < 9223372036854775808) (b : Bool) : ∃ H', FF n_l29_PaceEven [v, vi n, vi k, vb b] H0 = some (vb true, H') := by
  have key : wp (FF n_l29_PaceEven [v, vi n, vi k, vb b] H0) fun v' _ => v' = vb true := by
    haveI := args_ints hl
    refine wp_of (fun r => l29_PaceEven_of _ _ _ _ H0) ?_
    refine wp_eq (l29_PaceEven_k0_eq _ _ _ _ _ _ H0) ?_
    refine wp_eq (l29_PaceEven_k18_eq _ _ _ _ _ _ _ H0) ?_
    have stop : ∀ {x9 : Value} {m : List Int} {H : AH}, m.length ≤ 60 → Holds (ts 1 encI x9 m * fix H0) H → wp (l29_PaceEven_e19_0 (vi n) (vi k) (vb b) (vb false) x9 H) fun v' _ => v' = vb true := by
      intro x9 m H hm h
      refine wp_eq (l29_PaceEven_e19_0_eq _ _ _ _ _ H) ?_
      refine wp_eq (l29_PaceEven_k1_eq _ _ _ _ _ H) ?_
      cases b with
      | true =>
        repeat (first
          | with_reducible refine w_bind (pick_t _ _) ?_
          | with_reducible refine w_bind (pick_f _ _) ?_
          | with_reducible refine w_bind gV_tt ?_
          | with_reducible refine w_bind gV_ff ?_
          | with_reducible refine w_bind gV_tf ?_
          | with_reducible refine w_bind gV_ft ?_
          | with_reducible refine w_bind gB_tf ?_
          | with_reducible refine w_bind gB_ft ?_
          | with_reducible refine w_gE_tf ?_
          | with_reducible refine w_gE_ft ?_
          | with_reducible refine w_gE_tt ?_
          | with_reducible refine w_gE_ff ?_
          | with_reducible refine w_onK_tf ?_
          | with_reducible refine w_onK_ft ?_
          | with_reducible refine w_onK_tt ?_
          | with_reducible refine w_onK_ff ?_
          | with_reducible refine w_gld_tt ?_
          | with_reducible refine w_gld_ff ?_
          | with_reducible refine w_gld_tf ?_
          | with_reducible refine w_gld_ft ?_
          | with_reducible refine w_gldN_tt ?_
          | with_reducible refine w_gldN_ff ?_
          | with_reducible refine w_gldN_tf ?_
          | with_reducible refine w_gldN_ft ?_
          | with_reducible refine w_gB_tt ?_
          | with_reducible refine w_gB_ff ?_
          | with_reducible refine w_bind un_not ?_
          | with_reducible refine w_cond_t ?_
          | with_reducible refine w_cond_f ?_
          | with_reducible refine w_bind gV_u ?_
          | with_reducible refine w_bind gB_u ?_
          | with_reducible refine w_gld_u ?_)
        refine w_call (by assumption) (play_mod n 5 (by omega) (by omega)) fun _ _ _ => ?_
        have h5 := modI_lt (v := n) (n := 5) (by omega)
        refine w_bind (bin_sub_i (by omega) (by omega)) ?_
        refine w_call (by assumption) (play_mod k 14 (by omega) (by omega)) fun _ _ _ => ?_
        have h14 := modI_lt (v := k) (n := 14) (by omega)
        refine w_bind (bin_sub_i (by omega) (by omega)) ?_
        exact even_tail hT _ _ (by omega) _ hm (Holds.to (by assumption))
      | false =>
        repeat (first
          | with_reducible refine w_bind (pick_t _ _) ?_
          | with_reducible refine w_bind (pick_f _ _) ?_
          | with_reducible refine w_bind gV_tt ?_
          | with_reducible refine w_bind gV_ff ?_
          | with_reducible refine w_bind gV_tf ?_
          | with_reducible refine w_bind gV_ft ?_
          | with_reducible refine w_bind gB_tf ?_
          | with_reducible refine w_bind gB_ft ?_
          | with_reducible refine w_gE_tf ?_
          | with_reducible refine w_gE_ft ?_
          | with_reducible refine w_gE_tt ?_
          | with_reducible refine w_gE_ff ?_
          | with_reducible refine w_onK_tf ?_
          | with_reducible refine w_onK_ft ?_
          | with_reducible refine w_onK_tt ?_
          | with_reducible refine w_onK_ff ?_
          | with_reducible refine w_gld_tt ?_
          | with_reducible refine w_gld_ff ?_
          | with_reducible refine w_gld_tf ?_
          | with_reducible refine w_gld_ft ?_
          | with_reducible refine w_gldN_tt ?_
          | with_reducible refine w_gldN_ff ?_
          | with_reducible refine w_gldN_tf ?_
          | with_reducible refine w_gldN_ft ?_
          | with_reducible refine w_gB_tt ?_
          | with_reducible refine w_gB_ff ?_
          | with_reducible refine w_bind un_not ?_
          | with_reducible refine w_cond_t ?_
          | with_reducible refine w_cond_f ?_
          | with_reducible refine w_bind gV_u ?_
          | with_reducible refine w_bind gB_u ?_
          | with_reducible refine w_gld_u ?_)
        exact even_tail hT _ _ hn _ hm h
    have loop : ∀ (d i : Nat) (x9 : Value) (m : List Int) (H : AH), i + d = min l.length 60 → m.length = i → Holds (ts 1 encI x9 m * fix H0) H → wp (l29_PaceEven_k20 v (vi n) (vi k) (vb b) (vb false) x9 (vi i) H) fun v' _ => v' = vb true := by
      intro d
      induction d with
      | zero =>
        intro i x9 m H hi hm h
        refine wp_eq (l29_PaceEven_k20_eq _ _ _ _ _ _ _ H) ?_
        refine w_rlen (s := v) (l := l) h ?_
        by_cases hil : (i : Int) < l.length
        · refine w_bind (lss_t hil) ?_
          repeat (first
            | with_reducible refine w_bind (pick_t _ _) ?_
            | with_reducible refine w_bind (pick_f _ _) ?_
            | with_reducible refine w_bind gV_tt ?_
            | with_reducible refine w_bind gV_ff ?_
            | with_reducible refine w_bind gV_tf ?_
            | with_reducible refine w_bind gV_ft ?_
            | with_reducible refine w_bind gB_tf ?_
            | with_reducible refine w_bind gB_ft ?_
            | with_reducible refine w_gE_tf ?_
            | with_reducible refine w_gE_ft ?_
            | with_reducible refine w_gE_tt ?_
            | with_reducible refine w_gE_ff ?_
            | with_reducible refine w_onK_tf ?_
            | with_reducible refine w_onK_ft ?_
            | with_reducible refine w_onK_tt ?_
            | with_reducible refine w_onK_ff ?_
            | with_reducible refine w_gld_tt ?_
            | with_reducible refine w_gld_ff ?_
            | with_reducible refine w_gld_tf ?_
            | with_reducible refine w_gld_ft ?_
            | with_reducible refine w_gldN_tt ?_
            | with_reducible refine w_gldN_ff ?_
            | with_reducible refine w_gldN_tf ?_
            | with_reducible refine w_gldN_ft ?_
            | with_reducible refine w_gB_tt ?_
            | with_reducible refine w_gB_ff ?_
            | with_reducible refine w_bind un_not ?_
            | with_reducible refine w_cond_t ?_
            | with_reducible refine w_cond_f ?_
            | with_reducible refine w_bind gV_u ?_
            | with_reducible refine w_bind gB_u ?_
            | with_reducible refine w_gld_u ?_)
          refine w_bind (lss_f (by omega)) ?_
          repeat (first
            | with_reducible refine w_bind (pick_t _ _) ?_
            | with_reducible refine w_bind (pick_f _ _) ?_
            | with_reducible refine w_bind gV_tt ?_
            | with_reducible refine w_bind gV_ff ?_
            | with_reducible refine w_bind gV_tf ?_
            | with_reducible refine w_bind gV_ft ?_
            | with_reducible refine w_bind gB_tf ?_
            | with_reducible refine w_bind gB_ft ?_
            | with_reducible refine w_gE_tf ?_
            | with_reducible refine w_gE_ft ?_
            | with_reducible refine w_gE_tt ?_
            | with_reducible refine w_gE_ff ?_
            | with_reducible refine w_onK_tf ?_
            | with_reducible refine w_onK_ft ?_
            | with_reducible refine w_onK_tt ?_
            | with_reducible refine w_onK_ff ?_
            | with_reducible refine w_gld_tt ?_
            | with_reducible refine w_gld_ff ?_
            | with_reducible refine w_gld_tf ?_
            | with_reducible refine w_gld_ft ?_
            | with_reducible refine w_gldN_tt ?_
            | with_reducible refine w_gldN_ff ?_
            | with_reducible refine w_gldN_tf ?_
            | with_reducible refine w_gldN_ft ?_
            | with_reducible refine w_gB_tt ?_
            | with_reducible refine w_gB_ff ?_
            | with_reducible refine w_bind un_not ?_
            | with_reducible refine w_cond_t ?_
            | with_reducible refine w_cond_f ?_
            | with_reducible refine w_bind gV_u ?_
            | with_reducible refine w_bind gB_u ?_
            | with_reducible refine w_gld_u ?_)
          exact stop (by omega) h
        · refine w_bind (lss_f hil) ?_
          repeat (first
            | with_reducible refine w_bind (pick_t _ _) ?_
            | with_reducible refine w_bind (pick_f _ _) ?_
            | with_reducible refine w_bind gV_tt ?_
            | with_reducible refine w_bind gV_ff ?_
            | with_reducible refine w_bind gV_tf ?_
            | with_reducible refine w_bind gV_ft ?_
            | with_reducible refine w_bind gB_tf ?_
            | with_reducible refine w_bind gB_ft ?_
            | with_reducible refine w_gE_tf ?_
            | with_reducible refine w_gE_ft ?_
            | with_reducible refine w_gE_tt ?_
            | with_reducible refine w_gE_ff ?_
            | with_reducible refine w_onK_tf ?_
            | with_reducible refine w_onK_ft ?_
            | with_reducible refine w_onK_tt ?_
            | with_reducible refine w_onK_ff ?_
            | with_reducible refine w_gld_tt ?_
            | with_reducible refine w_gld_ff ?_
            | with_reducible refine w_gld_tf ?_
            | with_reducible refine w_gld_ft ?_
            | with_reducible refine w_gldN_tt ?_
            | with_reducible refine w_gldN_ff ?_
            | with_reducible refine w_gldN_tf ?_
            | with_reducible refine w_gldN_ft ?_
            | with_reducible refine w_gB_tt ?_
            | with_reducible refine w_gB_ff ?_
            | with_reducible refine w_bind un_not ?_
            | with_reducible refine w_cond_t ?_
            | with_reducible refine w_cond_f ?_
            | with_reducible refine w_bind gV_u ?_
            | with_reducible refine w_bind gB_u ?_
            | with_reducible refine w_gld_u ?_)
          exact stop (by omega) h
      | succ d ih =>
        intro i x9 m H hi hm h
        have hil : i < l.length := by omega
        refine wp_eq (l29_PaceEven_k20_eq _ _ _ _ _ _ _ H) ?_
        refine w_rlen (s := v) (l := l) h ?_
        refine w_bind (lss_t (by omega)) ?_
        repeat (first
          | with_reducible refine w_bind (pick_t _ _) ?_
          | with_reducible refine w_bind (pick_f _ _) ?_
          | with_reducible refine w_bind gV_tt ?_
          | with_reducible refine w_bind gV_ff ?_
          | with_reducible refine w_bind gV_tf ?_
          | with_reducible refine w_bind gV_ft ?_
          | with_reducible refine w_bind gB_tf ?_
          | with_reducible refine w_bind gB_ft ?_
          | with_reducible refine w_gE_tf ?_
          | with_reducible refine w_gE_ft ?_
          | with_reducible refine w_gE_tt ?_
          | with_reducible refine w_gE_ff ?_
          | with_reducible refine w_onK_tf ?_
          | with_reducible refine w_onK_ft ?_
          | with_reducible refine w_onK_tt ?_
          | with_reducible refine w_onK_ff ?_
          | with_reducible refine w_gld_tt ?_
          | with_reducible refine w_gld_ff ?_
          | with_reducible refine w_gld_tf ?_
          | with_reducible refine w_gld_ft ?_
          | with_reducible refine w_gldN_tt ?_
          | with_reducible refine w_gldN_ff ?_
          | with_reducible refine w_gldN_tf ?_
          | with_reducible refine w_gldN_ft ?_
          | with_reducible refine w_gB_tt ?_
          | with_reducible refine w_gB_ff ?_
          | with_reducible refine w_bind un_not ?_
          | with_reducible refine w_cond_t ?_
          | with_reducible refine w_cond_f ?_
          | with_reducible refine w_bind gV_u ?_
          | with_reducible refine w_bind gB_u ?_
          | with_reducible refine w_gld_u ?_)
        refine w_bind (lss_t (by omega)) ?_
        repeat (first
          | with_reducible refine w_bind (pick_t _ _) ?_
          | with_reducible refine w_bind (pick_f _ _) ?_
          | with_reducible refine w_bind gV_tt ?_
          | with_reducible refine w_bind gV_ff ?_
          | with_reducible refine w_bind gV_tf ?_
          | with_reducible refine w_bind gV_ft ?_
          | with_reducible refine w_bind gB_tf ?_
          | with_reducible refine w_bind gB_ft ?_
          | with_reducible refine w_gE_tf ?_
          | with_reducible refine w_gE_ft ?_
          | with_reducible refine w_gE_tt ?_
          | with_reducible refine w_gE_ff ?_
          | with_reducible refine w_onK_tf ?_
          | with_reducible refine w_onK_ft ?_
          | with_reducible refine w_onK_tt ?_
          | with_reducible refine w_onK_ff ?_
          | with_reducible refine w_gld_tt ?_
          | with_reducible refine w_gld_ff ?_
          | with_reducible refine w_gld_tf ?_
          | with_reducible refine w_gld_ft ?_
          | with_reducible refine w_gldN_tt ?_
          | with_reducible refine w_gldN_ff ?_
          | with_reducible refine w_gldN_tf ?_
          | with_reducible refine w_gldN_ft ?_
          | with_reducible refine w_gB_tt ?_
          | with_reducible refine w_gB_ff ?_
          | with_reducible refine w_bind un_not ?_
          | with_reducible refine w_cond_t ?_
          | with_reducible refine w_cond_f ?_
          | with_reducible refine w_bind gV_u ?_
          | with_reducible refine w_bind gB_u ?_
          | with_reducible refine w_gld_u ?_)
        refine wp_eq (l29_PaceEven_k21_eq _ _ _ _ _ _ _ H) ?_
        refine w_rld1 (s := v) (l := l) h hil rfl ?_
        repeat (first
          | refine w_newC (by assumption) fun _ _ _ => ?_
          | refine w_new (by assumption) fun _ _ _ => ?_
          | refine w_map (by assumption) fun _ _ _ => ?_
          | refine w_LdN (by assumption) ?_
          | refine w_ld (by assumption) end_nf rfl ?_
          | refine w_ld (by assumption) end_f0 rfl ?_
          | refine w_ldN (by assumption) end_nf ?_
          | refine w_ldN (by assumption) end_f0 ?_
          | refine w_ad end_nf ?_
          | refine w_ad end_f0 ?_
          | refine w_Ld1 (by assumption) rfl ?_
          | refine w_st (by assumption) end_nf rfl rfl fun _ _ => ?_
          | refine w_st (by assumption) end_f0 rfl rfl fun _ _ => ?_
          | refine w_St (by assumption) rfl rfl fun _ _ => ?_
          | refine w_S ?_
          | refine w_R (by assumption) fun _ _ _ => ?_
          | refine w_eqK_rfl ?_
          | refine w_eq1 (by assumption) (by assumption) rfl ?_
          | refine w_eqN (by assumption) (by assumption) rfl ?_
          | refine w_len ?_)
        refine w_tapp (l[i] : Int) (by assumption) rfl ?_ (by omega) fun a c H2 h2 => ?_
        · unfold room; omega
        have next : ∀ {x9 : Value} {m : List Int} {H : AH}, m.length = i + 1 → Holds (ts 1 encI x9 m * fix H0) H → wp (l29_PaceEven_k22 v (vi n) (vi k) (vb b) (vb false) x9 (vi i) H) fun v' _ => v' = vb true := by
          intro x9 m H hm h
          refine wp_eq (l29_PaceEven_k22_eq _ _ _ _ _ _ _ H) ?_
          refine w_bind (bin_add_i (by omega) (by omega)) ?_
          exact ih (i + 1) x9 m H (by omega) hm h
        cases b with
        | true =>
          repeat (first
            | with_reducible refine w_bind (pick_t _ _) ?_
            | with_reducible refine w_bind (pick_f _ _) ?_
            | with_reducible refine w_bind gV_tt ?_
            | with_reducible refine w_bind gV_ff ?_
            | with_reducible refine w_bind gV_tf ?_
            | with_reducible refine w_bind gV_ft ?_
            | with_reducible refine w_bind gB_tf ?_
            | with_reducible refine w_bind gB_ft ?_
            | with_reducible refine w_gE_tf ?_
            | with_reducible refine w_gE_ft ?_
            | with_reducible refine w_gE_tt ?_
            | with_reducible refine w_gE_ff ?_
            | with_reducible refine w_onK_tf ?_
            | with_reducible refine w_onK_ft ?_
            | with_reducible refine w_onK_tt ?_
            | with_reducible refine w_onK_ff ?_
            | with_reducible refine w_gld_tt ?_
            | with_reducible refine w_gld_ff ?_
            | with_reducible refine w_gld_tf ?_
            | with_reducible refine w_gld_ft ?_
            | with_reducible refine w_gldN_tt ?_
            | with_reducible refine w_gldN_ff ?_
            | with_reducible refine w_gldN_tf ?_
            | with_reducible refine w_gldN_ft ?_
            | with_reducible refine w_gB_tt ?_
            | with_reducible refine w_gB_ff ?_
            | with_reducible refine w_bind un_not ?_
            | with_reducible refine w_cond_t ?_
            | with_reducible refine w_cond_f ?_
            | with_reducible refine w_bind gV_u ?_
            | with_reducible refine w_bind gB_u ?_
            | with_reducible refine w_gld_u ?_)
          refine w_rld1 (s := v) (l := l) h2 hil rfl ?_
          refine w_call (by assumption) (play_mod l[i] 3 (by omega) (by omega)) fun _ H3 h3 => ?_
          refine w_tst (modI l[i] 3) h3 (i := i) (by simp; omega) (.inl ⟨rfl, rfl⟩) rfl (by omega) rfl rfl fun H4 h4 => ?_
          exact next (m := (m ++ [l[i]]).set i (modI l[i] 3)) (by simp; omega) h4.to
        | false =>
          repeat (first
            | with_reducible refine w_bind (pick_t _ _) ?_
            | with_reducible refine w_bind (pick_f _ _) ?_
            | with_reducible refine w_bind gV_tt ?_
            | with_reducible refine w_bind gV_ff ?_
            | with_reducible refine w_bind gV_tf ?_
            | with_reducible refine w_bind gV_ft ?_
            | with_reducible refine w_bind gB_tf ?_
            | with_reducible refine w_bind gB_ft ?_
            | with_reducible refine w_gE_tf ?_
            | with_reducible refine w_gE_ft ?_
            | with_reducible refine w_gE_tt ?_
            | with_reducible refine w_gE_ff ?_
            | with_reducible refine w_onK_tf ?_
            | with_reducible refine w_onK_ft ?_
            | with_reducible refine w_onK_tt ?_
            | with_reducible refine w_onK_ff ?_
            | with_reducible refine w_gld_tt ?_
            | with_reducible refine w_gld_ff ?_
            | with_reducible refine w_gld_tf ?_
            | with_reducible refine w_gld_ft ?_
            | with_reducible refine w_gldN_tt ?_
            | with_reducible refine w_gldN_ff ?_
            | with_reducible refine w_gldN_tf ?_
            | with_reducible refine w_gldN_ft ?_
            | with_reducible refine w_gB_tt ?_
            | with_reducible refine w_gB_ff ?_
            | with_reducible refine w_bind un_not ?_
            | with_reducible refine w_cond_t ?_
            | with_reducible refine w_cond_f ?_
            | with_reducible refine w_bind gV_u ?_
            | with_reducible refine w_bind gB_u ?_
            | with_reducible refine w_gld_u ?_)
          exact next (m := m ++ [l[i]]) (by simp; omega) h2.to
    refine loop (min l.length 60) 0 _ [] H0 (by omega) rfl ?_
    exact ts_nil 1 encI (fix_holds H0)
  obtain ⟨v', H', e, rfl⟩ := key
  exact ⟨H', e⟩
end
end Go.Proofs.YtbjelopcelompaaGreatDoor.Gst
