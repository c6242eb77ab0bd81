/- What the statements on scripts are made of: bytes held against each other, steps, small plans. -/
import Derived.Test.YthagelbepgcolaaGreatDoorDch
namespace Go.Proofs.YthagelbepgcolaaGreatDoor.Gst
open Go Go.RowKit
set_option linter.unusedSimpArgs false
set_option linter.unusedVariables false
set_option maxHeartbeats 1000000

theorem rem_ii {cl : TCls} {a b : Int} (h : b ≠ 0) : pBin cl .rem (vi a) (vi b) = some (vi (a.tmod b)) := by
  simp only [pBin, pInt, if_true]
  rw [if_neg h]
/-! ### Bytes held against each other -/
def strB (l : List Nat) : ByteArray := mkStr (l.map fun n : Nat => (n : Int))
theorem u8s_enc : ∀ l : List Nat, u8s (l.flatMap encB) = some (l.map fun n : Nat => (n : Int)) := by
  intro l
  induction l with
  | nil => rfl
  | cons a l ih =>
    rw [List.flatMap_cons, List.map_cons]
    show (u8s (l.flatMap encB)).map _ = _
    rw [ih]; rfl
section
variable {P R : SP} {H : AH} {s x y : Value} {l m : List Nat}
theorem bytes_at (h : Holds P H) [r : Rd P s 1 encB l] : pBytesS s H = some (.string (strB l)) := by
  by_cases hl : l.length = 0
  · have : l = [] := List.eq_nil_of_length_eq_zero hl
    subst this
    obtain ⟨_, ⟨a, c, rfl, hn, _, h3⟩ | ⟨b, o, ro, row, rfl, _⟩⟩ := r.rd h
    · cases a with
      | none => rfl
      | some a => obtain ⟨b, o, rfl⟩ := h3 a rfl; rfl
    · rfl
  · obtain ⟨b, o, ro, row, rfl, hg, h3, h4⟩ := rd_row (s := s) (enc := encB) (l := l) (i := 0) h (by omega)
    rw [Nat.mul_one] at h3 h4
    unfold pBytesS
    simp only [hl, if_false, if_true]
    have : pLdN l.length (.pointer (some ⟨b, o, none⟩)) H = some (.agg (l.flatMap encB).toArray) := by
      simp only [pLdN, pAt, pCells, Option.bind_some, hg]
      rw [if_pos h3, h4]
    rw [this]
    show (u8s (l.flatMap encB).toArray.toList).map _ = _
    rw [show (l.flatMap encB).toArray.toList = l.flatMap encB from rfl, u8s_enc]
    rfl
theorem help_bytes [r1 : Rd P x 1 encB l] [r2 : Rd P y 1 encB l] : Sp n_help_Bytes [x, y] P (fun _ : Unit => vb true) (fun _ => P) := by
  refine sp_of fun R H h => ?_
  refine ⟨vb true, H, bE_ret.1 (help_Bytes_of x y H ?_), (), rfl, h⟩
  rw [bytes_at (l := l) h, bytes_at (l := l) h]
  simp only [Option.bind_some]
  have : pBin .other .eql (.string (strB l)) (.string (strB l)) = some (vb true) := by
    simp only [pBin, pStr]
    have : (strB l == strB l) = true := by
      show ((strB l).data == (strB l).data) = true
      simp
    rw [this]
  rw [this]; rfl
end
/-! ### Steps that may be encoded -/
def stepB (n : Int) (x : Int) : Int := if n.tmod 7 = 0 then x else modI x 64
section
variable {P R X : SP} {H : AH} {s pv : Value} {pk : List Int}
theorem steps_loop [r : Rd P pv 1 encI pk] (n : Int) : ∀ (d i : Nat) (s : Value) (H : AH), i + d = min pk.length 60 → Holds (ts 1 encI s ((pk.take i).map (stepB n)) * P) H →
    wp (l30_steps_k4 pv (vi n) (.slice none 0 0) s (vi i) H) fun v' H' => ∃ v : Value, v' = v ∧ Holds (ts 1 encI v ((pk.take 60).map (stepB n)) * P) H' := by
  intro d
  induction d with
  | zero =>
    intro i s H hi h
    refine wp_eq (l30_steps_k4_eq _ _ _ _ _ H) ?_
    refine w_rlen (s := pv) (l := pk) h ?_
    have e : pk.take i = pk.take 60 := by
      by_cases hk : pk.length ≤ 60
      · rw [List.take_of_length_le (by omega), List.take_of_length_le hk]
      · rw [show i = 60 by omega]
    rw [e] at h
    have stop : wp (l30_steps_e3_0 (.slice none 0 0) s H) fun v' H' => ∃ v : Value, v' = v ∧ Holds (ts 1 encI v ((pk.take 60).map (stepB n)) * P) H' := by
      refine wp_eq (l30_steps_e3_0_eq _ _ H) ?_
      refine wp_eq (l30_steps_k1_eq _ _ H) ?_
      exact w_ret ⟨s, rfl, h⟩
    by_cases hil : (i : Int) < pk.length
    · refine w_bind (lss_t hil) ?_
      refine gs ?_
      refine w_bind (lss_f (by omega)) ?_
      refine gs ?_
      exact stop
    · refine w_bind (lss_f hil) ?_
      refine gs ?_
      exact stop
  | succ d ih =>
    intro i s H hi h
    have hil : i < pk.length := by omega
    refine wp_eq (l30_steps_k4_eq _ _ _ _ _ H) ?_
    refine w_rlen (s := pv) (l := pk) h ?_
    refine w_bind (lss_t (by omega)) ?_
    refine gs ?_
    refine w_bind (lss_t (by omega)) ?_
    refine gs ?_
    refine wp_eq (l30_steps_k5_eq _ _ _ _ _ H) ?_
    have e : (pk.take (i + 1)).map (stepB n) = (pk.take i).map (stepB n) ++ [stepB n pk[i]] := by
      rw [List.take_succ_eq_append_getElem hil, List.map_append]; rfl
    refine w_bind (rem_ii (by omega)) ?_
    by_cases h7 : n.tmod 7 = 0
    · refine w_bind (eql_t h7) ?_
      refine gs ?_
      refine w_rld1 (s := pv) (l := pk) h hil rfl ?_
      refine w_R h fun b0 H3 h3 => ?_
      refine w_tapp (s := s) (pk[i] : Int) h3 rfl ?_ (by omega) fun a cc H4 h4 => ?_
      · unfold room; simp only [List.length_map, List.length_take]; omega
      refine wp_eq (l30_steps_k6_eq _ _ _ _ _ H4) ?_
      refine w_bind (bin_add_i (by omega) (by omega)) ?_
      refine ih (i + 1) _ H4 (by omega) ?_
      rw [e, show stepB n pk[i] = pk[i] by unfold stepB; rw [if_pos h7]]
      exact h4.to
    · refine w_bind (eql_f h7) ?_
      refine gs ?_
      refine w_rld1 (s := pv) (l := pk) h hil rfl ?_
      refine w_call h (play_mod pk[i] 64 (by omega) (by omega)) fun _ H2 h2 => ?_
      refine w_R h2 fun b0 H3 h3 => ?_
      refine w_tapp (s := s) (modI pk[i] 64 : Int) h3 rfl ?_ (by omega) fun a cc H4 h4 => ?_
      · unfold room; simp only [List.length_map, List.length_take]; omega
      refine wp_eq (l30_steps_k6_eq _ _ _ _ _ H4) ?_
      refine w_bind (bin_add_i (by omega) (by omega)) ?_
      refine ih (i + 1) _ H4 (by omega) ?_
      rw [e, show stepB n pk[i] = modI pk[i] 64 by unfold stepB; rw [if_neg h7]]
      exact h4.to
theorem l30_steps_law [r : Rd P pv 1 encI pk] (n : Int) : Sp n_l30_steps [pv, vi n] P (fun v : Value => v) (fun v => ts 1 encI v ((pk.take 60).map (stepB n)) * P) := by
  refine sp_of fun R H h => ?_
  refine wp_of (fun r => l30_steps_of _ _ H) ?_
  refine wp_eq (l30_steps_k0_eq _ _ _ _ H) ?_
  refine wp_eq (l30_steps_k2_eq _ _ _ _ _ H) ?_
  refine wp_imp (fun v' H' hq => ?_) (steps_loop (P := P * R) (pk := pk) n (min pk.length 60) 0 (.slice none 0 0) H (by omega) (ts_nil 1 encI h))
  obtain ⟨s', rfl, hq⟩ := hq
  exact ⟨v', rfl, hq.to⟩
end
end Go.Proofs.YthagelbepgcolaaGreatDoor.Gst
