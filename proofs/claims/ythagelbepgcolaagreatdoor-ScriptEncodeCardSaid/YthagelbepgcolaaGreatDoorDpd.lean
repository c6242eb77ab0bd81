/- Plans that are made of any ones: configs, calls, calls that register flows. -/
import Derived.Test.YthagelbepgcolaaGreatDoorDpc
namespace Go.Proofs.YthagelbepgcolaaGreatDoor.Gst
open Go Go.RowKit
set_option linter.unusedSimpArgs false
set_option linter.unusedVariables false
set_option maxHeartbeats 1000000

theorem bin_rem_i {cl : TCls} {a b : Nat} (h : b ≠ 0) : pBin cl .rem (vi a) (vi b) = some (vi ((a % b : Nat) : Int)) := by
  simp only [pBin, pInt, if_true]
  rw [if_neg (by omega)]
  have h1 : (a : Int).tmod (b : Int) = ((a % b : Nat) : Int) := (Int.ofNat_tmod a b).symm
  rw [h1]
theorem remu_l {cl : TCls} {w : Nat} (n : Nat) (h : n ≠ 0) : pBin cl .rem (vu w) (.int .u64 (n : Int)) = some (vu (w % n)) := bin_rem_u h

/-! ### A config that is right -/
theorem config_end (b b2 : Nat) (c : Cfg) (u : Nat) (hu : 1 ≤ u ∧ u ≤ 4611686018427387904) {R : SP} {H : AH} (h : Holds (blk b2 (.cells false [vi 0, vi 0, vi 0, vi 0, vw 0]) * (blk b (.cells false (Cfg.cells c)) * R)) H) :
    wp (play_Config_k1 (vp b) (vp b2) (vu u) H) fun v' H' => ∃ c' : Cfg, v' = .agg (Cfg.cells c').toArray ∧ Holds (pu (rightB c' = true) * R) H' := by
  refine wp_eq (play_Config_k1_eq _ _ _ H) ?_
  refine w_ld h end_f0 rfl ?_
  refine w_call h (play_mod c.sh 4 (by omega) (by omega)) fun _ H1 h1 => ?_
  have m1 := modI_lt (v := c.sh) (n := 4) (by omega)
  refine w_bind (bin_add_i (by omega) (by omega)) ?_
  refine w_ad end_f0 ?_
  refine w_Ld1 h1 rfl ?_
  refine w_eq1 h h1 rfl ?_
  refine w_call h1 (play_mod c.sl 4 (by omega) (by omega)) fun _ H2 h2 => ?_
  have m2 := modI_lt (v := c.sl) (n := 4) (by omega)
  refine w_bind (bin_add_i (by omega) (by omega)) ?_
  refine w_ad end_f0 ?_
  refine w_Ld1 h2 rfl ?_
  refine w_eq1 h h2 rfl ?_
  refine w_eq1 h1 h2 rfl ?_
  refine w_call h2 (play_mod c.wk 6 (by omega) (by omega)) fun _ H3 h3 => ?_
  have m3 := modI_lt (v := c.wk) (n := 6) (by omega)
  refine w_bind (bin_add_i (by omega) (by omega)) ?_
  refine w_ad end_f0 ?_
  refine w_Ld1 h3 rfl ?_
  refine w_eq1 h h3 rfl ?_
  refine w_eq1 h1 h3 rfl ?_
  refine w_eq1 h2 h3 rfl ?_
  refine w_call h3 (play_mod c.wd 12 (by omega) (by omega)) fun _ H4 h4 => ?_
  have m4 := modI_lt (v := c.wd) (n := 12) (by omega)
  refine w_S ?_
  refine w_St h4 rfl rfl fun H5 h5 => ?_
  refine w_LdN h5 ?_
  refine w_ret ⟨⟨1 + modI c.sh 4, 1 + modI c.sl 4, 1 + modI c.wk 6, modI c.wd 12, u⟩, rfl, ?_⟩
  exact Holds.pu.2 ⟨rightB_iff.2 (by dsimp only; omega), h5.to⟩
theorem play_config (c : Cfg) : Sp n_play_Config [.agg (Cfg.cells c).toArray] emp (fun c' : Cfg => .agg (Cfg.cells c').toArray) (fun c' => pu (rightB c' = true)) := by
  refine sp_of fun R H h => ?_
  rw [emp_sep] at h
  refine wp_of (fun r => play_Config_of _ H) ?_
  refine w_newC h fun b H1 h1 => ?_
  refine w_new h1 fun b2 H2 h2 => ?_
  refine w_ld h2 end_f0 rfl ?_
  refine w_bind (remu_l 5000 (by omega)) ?_
  refine w_bind (bin_add_u (a := 1) (by omega)) ?_
  refine wp_eq (play_Config_k0_eq _ _ _ H2) ?_
  refine w_ld h2 end_f0 rfl ?_
  refine w_bind (remu_l 4 (by omega)) ?_
  refine w_bind (bin_eql) ?_
  refine w_cond (fun _ => ?_) (fun _ => ?_)
  · refine w_ld h2 end_f0 rfl ?_
    refine w_bind (remu_l 4611686018427387904 (by omega)) ?_
    have hm := Nat.mod_lt c.un (show 4611686018427387904 > 0 by omega)
    generalize c.un % 4611686018427387904 = u at hm
    refine w_bind (bin_add_u (a := 1) (by omega)) ?_
    exact config_end b b2 c _ (by omega) h2
  · have hm := Nat.mod_lt c.un (show 5000 > 0 by omega)
    exact config_end b b2 c _ (by omega) h2

/-! ### A call -/
section
variable {R : SP} {H : AH}
theorem call_end {b2 b3 : Nat} {y y2 : Cl} {P : SP} (h : Holds (blk b3 (.cells false (Cl.cells y)) * (blk b2 (.cells false (Cl.cells y2)) * P)) H) : wp (play_Call_k1 (vp b2) (vp b3) H) fun v' H' => ∃ y : Cl, v' = .agg (Cl.cells y).toArray ∧ Holds P H' := by
  refine wp_eq (play_Call_k1_eq _ _ H) ?_
  refine w_LdN h ?_
  refine w_St h rfl rfl fun H2 h2 => ?_
  refine w_LdN h2 ?_
  exact w_ret ⟨y, rfl, h2.to⟩
end
theorem play_call (x : Cl) : Sp n_play_Call [.agg (Cl.cells x).toArray] emp (fun y : Cl => .agg (Cl.cells y).toArray) (fun _ => emp) := by
  refine sp_of fun R H h => ?_
  rw [emp_sep] at h
  refine wp_of (fun r => play_Call_of _ H) ?_
  refine w_newC h fun b1 H1 h1 => ?_
  refine w_new h1 fun b2 H2 h2 => ?_
  refine w_ld h2 end_f0 rfl ?_
  refine w_call h2 (play_mod x.flow 23 (by omega) (by omega)) fun _ H3 h3 => ?_
  simp only [emp_sep]
  refine w_bind (bin_eql) ?_
  refine w_cond (fun _ => ?_) (fun _ => ?_)
  · refine w_LdN h3 ?_
    refine w_St h3 rfl rfl fun H4 h4 => ?_
    refine w_LdN h4 ?_
    exact w_ret ⟨x, rfl, h4.to⟩
  refine w_ld h3 end_f0 rfl ?_
  refine w_call h3 (play_mod x.flow 5 (by omega) (by omega)) fun _ H4 h4 => ?_
  refine w_S ?_
  refine w_new h4 fun b3 H5 h5 => ?_
  refine w_St h5 rfl rfl fun H6 h6 => ?_
  -- what each kind ends with
  have fin : ∀ (y : Cl) {H7 : AH}, Holds (blk b3 (.cells false (Cl.cells y)) * (blk b2 (.cells false (Cl.cells ⟨0, 0, 0, 0⟩)) * R)) H7 → wp (play_Call_k1 (vp b2) (vp b3) H7) fun v' H' => ∃ y : Cl, v' = .agg (Cl.cells y).toArray ∧ Holds R H' := fun y {H7} h7 => call_end (y2 := ⟨0, 0, 0, 0⟩) h7
  refine wp_eq (play_Call_k0_eq _ _ _ H6) ?_
  refine w_ld h6 end_f0 rfl ?_
  refine w_call h6 (play_mod x.op 10 (by omega) (by omega)) fun _ H7 h7 => ?_
  generalize modI x.op 10 = o
  refine wp_eq (play_Call_k5_eq _ _ _ _ H7) ?_
  refine w_bind (bin_eql) ?_
  refine wp_eq (play_Call_k7_eq _ _ _ _ _ H7) ?_
  refine w_cond (fun _ => ?_) (fun _ => ?_)
  · refine w_ld h7 end_f0 rfl ?_
    refine w_call h7 (play_mod x.a 5 (by omega) (by omega)) fun _ H8 h8 => ?_
    have m1 := modI_lt (v := x.a) (n := 5) (by omega)
    refine w_bind (bin_add_i (by omega) (by omega)) ?_
    refine w_ad end_f0 ?_
    refine w_Ld1 h8 rfl ?_
    refine w_eq1 h7 h8 rfl ?_
    refine w_call h8 (play_mod x.b 3 (by omega) (by omega)) fun _ H9 h9 => ?_
    have m2 := modI_lt (v := x.b) (n := 3) (by omega)
    refine w_bind (bin_add_i (by omega) (by omega)) ?_
    refine w_st h9 end_f0 rfl rfl fun H10 h10 => ?_
    refine w_st h10 end_f0 rfl rfl fun H11 h11 => ?_
    refine w_st h11 end_f0 rfl rfl fun H12 h12 => ?_
    exact fin ⟨1, modI x.flow 5, 1 + modI x.a 5, 1 + modI x.b 3⟩ h12.to
  refine w_bind (bin_eql) ?_
  refine wp_eq (play_Call_k18_eq _ _ _ _ _ H7) ?_
  refine w_cond (fun _ => ?_) (fun _ => ?_)
  · refine w_st h7 end_f0 rfl rfl fun H8 h8 => ?_
    exact fin ⟨2, modI x.flow 5, 0, 0⟩ h8.to
  have tail : ∀ q : Bool, wp (play_Call_k20 (vp b1) (vp b2) (vp b3) (vi o) (vb q) H7) fun v' H' => ∃ y : Cl, v' = .agg (Cl.cells y).toArray ∧ Holds R H' := by
    intro q
    refine wp_eq (play_Call_k20_eq _ _ _ _ _ H7) ?_
    refine w_cond (fun _ => ?_) (fun _ => ?_)
    · refine w_S ?_
      refine w_St h7 rfl rfl fun H8 h8 => ?_
      exact fin ⟨4, 0, 0, 0⟩ h8.to
    refine w_bind (bin_eql) ?_
    refine w_cond (fun _ => ?_) (fun _ => ?_)
    · refine w_ld h7 end_f0 rfl ?_
      refine w_call h7 (play_mod x.a 6 (by omega) (by omega)) fun _ H8 h8 => ?_
      refine w_S ?_
      refine w_St h8 rfl rfl fun H9 h9 => ?_
      exact fin ⟨5, 0, modI x.a 6, 0⟩ h9.to
    refine w_bind (bin_eql) ?_
    refine w_cond (fun _ => ?_) (fun _ => ?_)
    · refine w_S ?_
      refine w_St h7 rfl rfl fun H8 h8 => ?_
      exact fin ⟨6, 0, 0, 0⟩ h8.to
    refine w_ld h7 end_f0 rfl ?_
    refine w_call h7 (play_mod x.a 9 (by omega) (by omega)) fun _ H8 h8 => ?_
    have m1 := modI_lt (v := x.a) (n := 9) (by omega)
    refine w_bind (bin_add_i (by omega) (by omega)) ?_
    refine w_ad end_f0 ?_
    refine w_Ld1 h8 rfl ?_
    refine w_eq1 h7 h8 rfl ?_
    refine w_call h8 (play_mod x.b 1000 (by omega) (by omega)) fun _ H9 h9 => ?_
    refine w_st h9 end_f0 rfl rfl fun H10 h10 => ?_
    refine w_st h10 end_f0 rfl rfl fun H11 h11 => ?_
    refine w_st h11 end_f0 rfl rfl fun H12 h12 => ?_
    refine w_ld h12 end_f0 rfl ?_
    refine w_call h12 (play_mod x.a 13 (by omega) (by omega)) fun _ H13 h13 => ?_
    refine w_bind (bin_eql) ?_
    refine w_cond (fun _ => ?_) (fun _ => ?_)
    · refine w_ld h13 end_f0 rfl ?_
      refine w_call h13 (play_mod x.a 65536 (by omega) (by omega)) fun _ H14 h14 => ?_
      have m2 := modI_lt (v := x.a) (n := 65536) (by omega)
      refine w_bind (bin_add_i (by omega) (by omega)) ?_
      refine w_st h14 end_f0 rfl rfl fun H15 h15 => ?_
      exact fin ⟨3, modI x.flow 5, 1 + modI x.a 65536, modI x.b 1000⟩ h15.to
    · exact fin ⟨3, modI x.flow 5, 1 + modI x.a 9, modI x.b 1000⟩ h13.to
  refine w_bind (bin_eql) ?_
  refine w_cond (fun _ => tail _) (fun _ => ?_)
  refine w_bind (bin_eql) ?_
  exact tail _

/-! ### Flows that are registered -/
theorem play_ready : Sp n_play_Ready [vi 3] emp (fun s : Sv => s.v) (fun s => ex fun l : List Cl => pu (l.length = 3) * ts 4 Cl.cells s.v l) := by
  refine sp_of fun R H h => ?_
  refine wp_of (fun r => play_Ready_of _ H) ?_
  refine wp_eq (play_Ready_k0_eq _ _ _ H) ?_
  refine wp_eq (play_Ready_k2_eq _ _ _ _ H) ?_
  have loop : ∀ (d i : Nat) (s : Value) (l : List Cl) (H : AH), i + d = 3 → l.length = i → Holds (ts 4 Cl.cells s l * R) H → wp (play_Ready_k4 (vi 3) (.slice none 0 0) s (vi i) H) fun v' H' => ∃ s : Sv, v' = s.v ∧ Holds ((ex fun l : List Cl => pu (l.length = 3) * ts 4 Cl.cells s.v l) * R) H' := by
    intro d
    induction d with
    | zero =>
      intro i s l H hi hl h
      refine wp_eq (play_Ready_k4_eq _ _ _ _ H) ?_
      refine w_bind (lss_f (by omega)) ?_
      refine gs ?_
      refine wp_eq (play_Ready_e3_0_eq _ _ H) ?_
      refine wp_eq (play_Ready_k1_eq _ _ H) ?_
      have hv : ∃ s' : Sv, s = s'.v := by
        rcases ts_open (s := s) h with ⟨rfl, _, _⟩ | ⟨b', rfl, _⟩
        · exact ⟨⟨none, 0, 0⟩, rfl⟩
        · exact ⟨⟨_, _, _⟩, rfl⟩
      obtain ⟨s', rfl⟩ := hv
      refine w_ret ⟨s', rfl, Holds.ex.2 ⟨l, ?_⟩⟩
      rw [sep_assoc]
      exact Holds.pu.2 ⟨by omega, h⟩
    | succ d ih =>
      intro i s l H hi hl h
      refine wp_eq (play_Ready_k4_eq _ _ _ _ H) ?_
      refine w_bind (lss_t (by omega)) ?_
      refine gs ?_
      refine wp_eq (play_Ready_k5_eq _ _ _ _ H) ?_
      refine w_bind (bin_add_i (by omega) (by omega)) ?_
      refine w_bind (bin_rem_i (b := 2) (by omega)) ?_
      refine w_bind (bin_add_i (by omega) (by omega)) ?_
      refine w_S ?_
      refine w_R h fun b0 H3 h3 => ?_
      refine w_tapp (⟨1, i, 1 + (i : Int), 2 + ((i % 2 : Nat) : Int)⟩ : Cl) h3 rfl ?_ (by omega) fun a c H4 h4 => ?_
      · unfold room; omega
      refine wp_eq (play_Ready_k6_eq _ _ _ _ H4) ?_
      refine w_bind (bin_add_i (by omega) (by omega)) ?_
      exact ih (i + 1) (.slice a (l.length + 1) c) (l ++ [⟨1, i, 1 + (i : Int), 2 + ((i % 2 : Nat) : Int)⟩]) H4 (by omega) (by simp; omega) h4.to
  rw [emp_sep] at h
  exact loop 3 0 (.slice none 0 0) [] H (by omega) rfl (ts_nil 4 Cl.cells h)

/-! ### Lists that are made -/
def rowsS : List (Sv × List Cl) → SP
  | [] => emp
  | p :: ps => ts 4 Cl.cells p.1.v p.2 * rowsS ps
def lsS (v : Value) (ps : List (Sv × List Cl)) : SP := ts 1 encS v (ps.map (·.1)) * rowsS ps
theorem rowsS_split : ∀ {ps : List (Sv × List Cl)} {i : Nat} (h : i < ps.length), ∃ R, rowsS ps = ts 4 Cl.cells (ps[i]).1.v (ps[i]).2 * R ∧ ∀ q : Sv × List Cl, rowsS (ps.set i q) = ts 4 Cl.cells q.1.v q.2 * R := by
  intro ps
  induction ps with
  | nil => intro i h; simp at h
  | cons p ps ih =>
    intro i h
    cases i with
    | zero => exact ⟨rowsS ps, rfl, fun q => rfl⟩
    | succ i =>
      obtain ⟨R, e1, e2⟩ := ih (i := i) (by simpa using h)
      refine ⟨ts 4 Cl.cells p.1.v p.2 * R, ?_, fun q => ?_⟩
      · show ts 4 Cl.cells p.1.v p.2 * rowsS ps = _
        rw [e1, sep_left_comm]; rfl
      · show ts 4 Cl.cells p.1.v p.2 * rowsS (ps.set i q) = _
        rw [e2, sep_left_comm]
theorem rowsS_snoc : ∀ (ps : List (Sv × List Cl)) (q : Sv × List Cl), rowsS (ps ++ [q]) = rowsS ps * ts 4 Cl.cells q.1.v q.2 := by
  intro ps
  induction ps with
  | nil => intro q; show ts _ _ _ _ * emp = emp * _; rw [sep_emp, emp_sep]
  | cons p ps ih => intro q; show ts 4 Cl.cells p.1.v p.2 * rowsS (ps ++ [q]) = ts 4 Cl.cells p.1.v p.2 * rowsS ps * _; rw [ih, sep_assoc]
theorem rowsS_nil : ∀ k : Nat, rowsS (List.replicate k (⟨none, 0, 0⟩, [])) = rowsS (List.replicate k (⟨none, 0, 0⟩, [])) := fun _ => rfl
theorem rows_none {R : SP} {H : AH} (h : Holds R H) : ∀ k : Nat, Holds (rowsS (List.replicate k (⟨none, 0, 0⟩, [])) * R) H := by
  intro k
  induction k with
  | zero => show Holds (emp * R) H; rw [emp_sep]; exact h
  | succ k ih =>
    show Holds (ts 4 Cl.cells (.slice none 0 0) [] * rowsS _ * R) H
    rw [sep_assoc]
    exact ts_nil 4 Cl.cells ih
instance lsS_ls (v : Value) (ps : List (Sv × List Cl)) : Ls (lsS v ps) v (ps.map (·.2)) := ⟨⟨ps.map (·.1), by simp, by unfold lsS; infer_instance, fun i h h' => by
  have hi : i < ps.length := by simpa using h
  obtain ⟨R, e, _⟩ := rowsS_split hi
  unfold lsS
  rw [e]
  simp only [List.getElem_map]
  infer_instance⟩⟩
/-- The place of an element, whatever becomes of the heap. -/
theorem rd_ad {α : Type} {P : SP} {H : AH} {s : Value} {enc : α → List Value} {l : List α} {i : Nat} {kk : IntKind} (h : Holds P H) [r : Rd P s 1 enc l] (hi : i < l.length) :
    ∃ b o, (∀ {R' : Type} (k : Value → Option R'), ad [.i 1 (.int kk (i : Int))] s k = k (vpo b o)) ∧
      ∀ {P' : SP} {H' : AH} {β : Type} {enc' : β → List Value} {l' : List β} [E' : Enc enc' 1] (h' : Holds P' H') (r' : Rd P' s 1 enc' l') (hi' : i < l'.length) (v : Value), enc' l'[i] = [v] → pLd1 (vpo b o) H' = some v := by
  obtain ⟨_, ⟨a, c, rfl, hn, _⟩ | ⟨b, o, ro, row, rfl, _⟩⟩ := r.rd h
  · omega
  · refine ⟨b, o + i * 1, fun k => by rw [ad_i hi]; rfl, ?_⟩
    intro P' H' β enc' l' E' h' r' hi' v hv
    obtain ⟨b', o', ro', row', e, h2, h3, h4⟩ := rd_row (s := .slice (some ⟨b, o, none⟩) l.length 1) (enc := enc') (l := l') h' hi'
    obtain ⟨⟨rfl, rfl⟩, _⟩ : (b = b' ∧ o = o') ∧ l.length = l'.length := by simpa using e
    have := rd_cell (g := 0) h4 hi' (by omega)
    simp only [pLd1, pAt, pCells, Option.bind_some, h2]
    rw [Nat.add_zero] at this
    rw [this, hv]; rfl
end Go.Proofs.YthagelbepgcolaaGreatDoor.Gst
