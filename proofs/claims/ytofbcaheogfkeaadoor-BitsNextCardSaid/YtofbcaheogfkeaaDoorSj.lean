/- BitsWalk and BitsBuilt, in plain Lean. -/
import Derived.Test.YtofbcaheogfkeaaDoorSi
namespace Go.Proofs.YtofbcaheogfkeaaDoor.Gst
open Go Go.RowKit
set_option linter.unusedSimpArgs false
set_option maxRecDepth 100000

theorem up_loop {b : Nat} (hb : b < 18446744073709551616) {H0 : AH} (hT : Tab H0) (x2 x4 : Value) : ∀ (n k : Nat) (r : Int) (s : Value) (l : List Int) (H : AH), k + n = 64 → l.length ≤ k → IsNext b k r → Keeps H0 H → Own H0 H s l →
    ∃ s' H', weighbridgelaw03_BitsWalk_k32 (vu b) x2 s x4 (vi r) H = weighbridgelaw03_BitsWalk_k1 (vu b) x2 s' x4 H' ∧ Keeps H0 H' ∧ Own H0 H' s' (l ++ onesFrom b k n) := by
  intro n
  induction n using Nat.strongRecOn with
  | ind n ih =>
    intro k r s l H hk hl hr hK hO
    rw [weighbridgelaw03_BitsWalk_k32_eq, bin_geq, Option.bind_some, onesFrom_next n k r hk hr]
    by_cases h0 : r < 0
    · have : ¬ (0 ≤ r) := by omega
      rw [decide_eq_false this, if_pos h0]
      simp only [onK_ft, Option.bind_some, pick_f, cond_f]
      rw [weighbridgelaw03_BitsWalk_e31_0_eq]
      exact ⟨s, H, rfl, hK, by simpa using hO⟩
    · have h1 : 0 ≤ r := by omega
      have hrk : (k : Int) ≤ r ∧ r < 64 := by
        rcases hr with ⟨h1, h2⟩ | ⟨h0, h1, h2, h3⟩
        · omega
        · exact ⟨h1, (bitN_range h2).2⟩
      have h65 : ((l.length : Int) < 65) := by omega
      rw [decide_eq_true h1, if_neg h0]
      simp only [onK_tt, Option.bind_some, ints_len hO.ints, bin_lss, decide_eq_true h65, pick_t, cond_t]
      rw [weighbridgelaw03_BitsWalk_k33_eq]
      obtain ⟨s', H', hK', hO', he⟩ := app_one (R := Value × AH) hK hO r (by omega)
      rw [he]
      simp only
      rw [weighbridgelaw03_BitsWalk_k34_eq, bin_add_i (by omega) (by omega), Option.bind_some]
      obtain ⟨r2, e2, n2⟩ := next_spec hb (r + 1) (hT.keep hK')
      rw [e2]
      simp only [Option.bind_some]
      have c : (((r.toNat + 1 : Nat)) : Int) = r + 1 := by omega
      obtain ⟨s3, H3, e3, k3, o3⟩ := ih (63 - r.toNat) (by omega) (r.toNat + 1) r2 s' (l ++ [r]) H' (by omega) (by simp; omega) (by rw [c]; exact n2) hK' hO'
      refine ⟨s3, H3, e3, k3, ?_⟩
      simpa using o3

theorem onesFrom_skip {b : Nat} : ∀ (m j k n : Nat), j + m = k → k + n = 64 → (∀ i : Int, j ≤ i → i < k → bitN b i = false) → onesFrom b j (m + n) = onesFrom b k n := by
  intro m
  induction m with
  | zero => intro j k n h1 h2 h; have : j = k := by omega
            subst this; rw [Nat.zero_add]
  | succ m ih =>
    intro j k n h1 h2 h
    have h0 := h j (by omega) (by omega)
    rw [bitN_nat (by omega)] at h0
    rw [show m + 1 + n = (m + n) + 1 from by omega]
    simp only [onesFrom, h0, Bool.false_eq_true, if_false]
    exact ih (j + 1) k n (by omega) h2 (fun i hi hk => h i (by omega) hk)

theorem down_loop {b : Nat} (hb : b < 18446744073709551616) {H0 : AH} (x2 x3 : Value) : ∀ (k n : Nat) (r : Int) (s : Value) (H : AH), k + n = 64 → IsLast b ((k : Int) - 1) r → Keeps H0 H → Own H0 H s (onesFrom b k n) →
    ∃ s' H', weighbridgelaw03_BitsWalk_k15 (vu b) x2 x3 s (vi r) H = weighbridgelaw03_BitsWalk_k2 (vu b) x2 x3 s' H' ∧ Keeps H0 H' ∧ Own H0 H' s' (onesOf b) := by
  intro k
  induction k using Nat.strongRecOn with
  | ind k ih =>
    intro n r s H hk hr hK hO
    rw [weighbridgelaw03_BitsWalk_k15_eq, bin_geq, Option.bind_some]
    rcases hr with ⟨h1, h2⟩ | ⟨h0, h1, h2, h3⟩
    · have : ¬ (0 ≤ r) := by omega
      rw [decide_eq_false this]
      simp only [onK_ft, Option.bind_some, pick_f, cond_f]
      rw [weighbridgelaw03_BitsWalk_e14_2_eq]
      refine ⟨s, H, rfl, hK, ?_⟩
      have := onesFrom_skip (b := b) k 0 k n (by omega) hk (fun i _ hi => h2 i (by omega))
      rw [hk] at this
      unfold onesOf
      rw [this]; exact hO
    · have hl := onesFrom_len b n k
      have h65 : (((onesFrom b k n).length : Int) < 65) := by omega
      rw [decide_eq_true h0]
      simp only [onK_tt, Option.bind_some, ints_len hO.ints, bin_lss, decide_eq_true h65, pick_t, cond_t]
      rw [weighbridgelaw03_BitsWalk_k16_eq, fill1 _ rfl]
      simp only [Option.bind_some, rowK]
      have kp := Keeps.push H (.cells false [vi r])
      have ho : Own H0 (H.push (.cells false [vi r])) (.slice (some ⟨H.size, 0, none⟩) 1 1) [r] := .row H.size [r] hK.1 (AH.get_push_new _ _)
      obtain ⟨s', H', ha, hK', hO', _⟩ := app_ints (hK.trans kp) ho (hO.keep kp).ints (by simp; omega)
      rw [ha]
      simp only [Option.bind_some]
      rw [weighbridgelaw03_BitsWalk_k17_eq, bin_sub_i (by omega) (by omega), Option.bind_some]
      obtain ⟨r2, e2, n2⟩ := last_spec hb (r - 1) H'
      rw [e2]
      simp only [Option.bind_some]
      have c : ((r.toNat : Nat) : Int) = r := by omega
      have hone : onesFrom b r.toNat (64 - r.toNat) = [r] ++ onesFrom b k n := by
        have h4 := bitN_nat (b := b) (k := r.toNat) (by omega)
        rw [c, h2] at h4
        rw [show 64 - r.toNat = (k - (r.toNat + 1) + n) + 1 from by omega]
        simp only [onesFrom, ← h4, if_true]
        rw [onesFrom_skip (b := b) (k - (r.toNat + 1)) (r.toNat + 1) k n (by omega) hk (fun i hi hi2 => h3 i (by omega) (by omega)), c]
        rfl
      exact ih r.toNat (by omega) (64 - r.toNat) r2 s' H' (by omega) (by rw [c]; exact n2) hK' (by rw [hone]; exact hO')

theorem bitsWalk {b : Nat} (hb : b < 18446744073709551616) {H : AH} (hT : Tab H) : ∃ H', FF n_weighbridgelaw03_BitsWalk [vu b] H = some (vb true, H') := by
  obtain ⟨r, e1, n1⟩ := next_spec hb 0 hT
  obtain ⟨up, H1, e2, k2, o2⟩ := up_loop hb hT (vb false) (.slice none 0 0) 64 0 r (.slice none 0 0) [] H rfl (Nat.le_refl _) n1 (Keeps.refl H) .nil
  obtain ⟨r2, e3, n3⟩ := last_spec hb 63 H1
  obtain ⟨dn, H2, e4, k4, o4⟩ := down_loop hb (H0 := H1) (vb false) up 64 0 r2 (.slice none 0 0) H1 rfl n3 (Keeps.refl H1) .nil
  obtain ⟨H3, e5, k5⟩ := awake_spec ((hT.keep k2).keep k4)
  obtain ⟨al, H4, e6, k6, o6⟩ := all_spec hb (((hT.keep k2).keep k4).keep k5)
  have o2 : Own H H1 up (onesOf b) := by simpa [onesOf] using o2
  have l64 := onesOf_len b
  have iu := o2.ints.keep (k4.trans (k5.trans k6))
  have p1 := plain_spec iu o6.ints (by omega)
  have p2 := plain_spec (o4.ints.keep (k5.trans k6)) iu (by omega)
  refine ⟨H4, ?_⟩
  apply weighbridgelaw03_BitsWalk_of
  rw [weighbridgelaw03_BitsWalk_eq, weighbridgelaw03_BitsWalk_k0_eq, e1, Option.bind_some, weighbridgelaw03_BitsWalk_k30_eq]
  simp only
  rw [e2, weighbridgelaw03_BitsWalk_k1_eq, e3, Option.bind_some, weighbridgelaw03_BitsWalk_k13_eq]
  simp only
  rw [e4, weighbridgelaw03_BitsWalk_k2_eq, e5]
  simp only [onK_tt, pick_t, Option.bind_some, e6, p1, p2, decide_true]

/-!     BitsBuilt -/
/-- The bits are told by a row of sixty-four. -/
def Told (b : Nat) (on : List Bool) : Prop := b < 18446744073709551616 ∧ on.length = 64 ∧ ∀ j, j < 64 → on[j]? = some (b.testBit j)

theorem set_push (H : AH) (o o' : AObj) : (H.push o).set H.size o' = H.push o' := by
  unfold AH.push AH.set AH.size
  simp
theorem splice_set (on : List Bool) (i : Nat) (hi : i < on.length) (v : Bool) : splice (on.map vb) i [vb v] = (on.set i v).map vb := by
  unfold splice
  apply List.ext_getElem?
  intro j
  simp only [List.length_singleton]
  rw [List.getElem?_map, List.getElem?_set]
  by_cases h1 : j < i
  · have : ¬ i = j := by omega
    rw [List.append_assoc, List.getElem?_append_left (by simp; omega), List.getElem?_take]
    simp [h1, this]
  · by_cases h2 : i = j
    · subst h2
      have hm : min i on.length = i := Nat.min_eq_left (Nat.le_of_lt hi)
      rw [List.append_assoc, List.getElem?_append_right (by simp [hm])]
      simp [hi, hm]
    · rw [List.getElem?_append_right (by simp; omega)]
      simp only [List.length_append, List.length_take, List.length_map, List.length_singleton, List.getElem?_drop, h2, if_false, List.getElem?_map]
      rw [Nat.min_eq_left (Nat.le_of_lt hi)]
      congr 2
      omega
theorem st_on (H : AH) (on : List Bool) (i : Nat) (hi : i < on.length) (v : Bool) : pSt 1 (.pointer (some ⟨H.size, i, none⟩)) (vb v) (H.push (.cells false (on.map vb))) = some (H.push (.cells false ((on.set i v).map vb))) := by
  unfold pSt
  simp only [pAt, Option.bind_some, AH.get_push_new]
  rw [if_pos ⟨rfl, by simp; omega, rfl⟩]
  show some ((H.push _).set H.size (.cells false (splice _ i [vb v]))) = _
  rw [set_push, splice_set on i hi]
theorem ld_on (H : AH) (on : List Bool) (i : Nat) (v : Bool) (h : on[i]? = some v) : pLd1 (.pointer (some ⟨H.size, i, none⟩)) (H.push (.cells false (on.map vb))) = some (vb v) :=
  ld1_of (AH.get_push_new _ _) (by rw [List.getElem?_map, h]; rfl)

theorem told_with {b : Nat} {on : List Bool} (h : Told b on) {i : Nat} (hi : i < 64) : Told (b ||| maskN i) (on.set i true) := by
  obtain ⟨h1, h2, h3⟩ := h
  refine ⟨or_lt h1 (maskN_lt _), by simpa using h2, fun j hj => ?_⟩
  rw [List.getElem?_set, Nat.testBit_or, mask_bit]
  by_cases e : i = j
  · subst e; simp [hi, h2]
  · have : ¬ ((i : Int) = j ∧ j < 64) := by omega
    rw [if_neg e, decide_eq_false this, h3 j hj, Bool.or_false]
theorem told_without {b : Nat} {on : List Bool} (h : Told b on) {i : Nat} (hi : i < 64) : Told (b &&& (18446744073709551615 - maskN i)) (on.set i false) := by
  obtain ⟨h1, h2, h3⟩ := h
  refine ⟨Nat.lt_of_le_of_lt Nat.and_le_left h1, by simpa using h2, fun j hj => ?_⟩
  rw [List.getElem?_set, Nat.testBit_and, inv_bit _ _ (maskN_lt _), mask_bit]
  by_cases e : i = j
  · subst e
    rw [if_pos rfl, if_pos (by omega), decide_eq_true (show (i : Int) = i ∧ i < 64 from ⟨rfl, hi⟩)]
    simp
  · have : ¬ ((i : Int) = j ∧ j < 64) := by omega
    rw [if_neg e, decide_eq_false this, h3 j hj, decide_eq_true hj]
    simp

theorem built_check {b : Nat} {on : List Bool} (h : Told b on) {H : AH} (x2 : Value) : ∀ (n k : Nat), k + n = 64 →
    weighbridgelaw03_BitsBuilt_k6 x2 (vu b) (.pointer (some ⟨H.size, 0, none⟩)) (vi k) (H.push (.cells false (on.map vb))) = weighbridgelaw03_BitsBuilt_k2 x2 (H.push (.cells false (on.map vb))) := by
  intro n
  induction n with
  | zero =>
    intro k hk
    have h1 : ¬ ((k : Int) < 64) := by omega
    rw [weighbridgelaw03_BitsBuilt_k6_eq, bin_lss, Option.bind_some, decide_eq_false h1, cond_f, weighbridgelaw03_BitsBuilt_e5_2_eq]
  | succ n ih =>
    intro k hk
    have h1 : ((k : Int) < 64) := by omega
    have hk64 : k < 64 := by omega
    rw [weighbridgelaw03_BitsBuilt_k6_eq, bin_lss, Option.bind_some, decide_eq_true h1, cond_t, weighbridgelaw03_BitsBuilt_k7_eq, has_spec h.1, Option.bind_some]
    simp only
    rw [idxA_of hk64, Option.bind_some, ld_on H on k _ (h.2.2 k hk64), Option.bind_some, eqK_rfl, bitN_nat hk64, bin_neb, Option.bind_some]
    simp only [beq_self_eq_true, Bool.not_true, cond_f]
    rw [weighbridgelaw03_BitsBuilt_k8_eq, bin_add_i (by omega) (by omega), Option.bind_some]
    exact ih (k + 1) (by omega)

theorem built_loop {H : AH} {s : Value} {l : List Int} (hs : Ints H s l) (x2 : Value) : ∀ (n k : Nat) (b : Nat) (on : List Bool), k + n = min l.length 200 → Told b on →
    ∃ b' on', weighbridgelaw03_BitsBuilt_k18 s x2 (vu b) (.pointer (some ⟨H.size, 0, none⟩)) (vi k) (H.push (.cells false (on.map vb))) = weighbridgelaw03_BitsBuilt_k1 x2 (vu b') (.pointer (some ⟨H.size, 0, none⟩)) (H.push (.cells false (on'.map vb))) ∧ Told b' on' := by
  intro n
  induction n with
  | zero =>
    intro k b on hk h
    refine ⟨b, on, ?_, h⟩
    rw [weighbridgelaw03_BitsBuilt_k18_eq, ints_len hs, bin_lss, Option.bind_some]
    by_cases h1 : (k : Int) < l.length
    · have h2 : ¬ ((k : Int) < 200) := by omega
      rw [decide_eq_true h1]
      simp only [onK_tt, Option.bind_some, bin_lss, decide_eq_false h2, pick_t, cond_f]
      rw [weighbridgelaw03_BitsBuilt_e17_0_eq]
    · rw [decide_eq_false h1]
      simp only [onK_ft, Option.bind_some, pick_f, cond_f]
      rw [weighbridgelaw03_BitsBuilt_e17_0_eq]
  | succ n ih =>
    intro k b on hk h
    have hkl : k < l.length := by omega
    have h1 : (k : Int) < l.length := by omega
    have h2 : ((k : Int) < 200) := by omega
    rw [weighbridgelaw03_BitsBuilt_k18_eq, ints_len hs, bin_lss, Option.bind_some, decide_eq_true h1]
    simp only [onK_tt, Option.bind_some, bin_lss, decide_eq_true h2, pick_t, cond_t]
    rw [weighbridgelaw03_BitsBuilt_k19_eq, ints_at hs (Keeps.push H _) hkl, conv_u64, Option.bind_some]
    have r : ∀ n : Nat, pBin .other .rem (vu n) (Value.int .u64 128) = some (vu (n % 128)) := fun n => bin_rem_u (cl := .other) (a := n) (b := 128) (by omega)
    rw [r, Option.bind_some]
    obtain ⟨i, hi⟩ : ∃ i, i = (l[k] % 18446744073709551616).toNat % 128 := ⟨_, rfl⟩
    have hi128 : i < 128 := by rw [hi]; exact Nat.mod_lt _ (by omega)
    rw [← hi]
    have c : pConv (some .i64) (vu i) = some (vi (i : Int)) := by
      simp only [pConv]
      rw [wrap_i_of (by omega) (by omega)]
    have nxt : ∀ b' on', Told b' on' → ∃ b'' on'', weighbridgelaw03_BitsBuilt_k20 s x2 (vu b') (.pointer (some ⟨H.size, 0, none⟩)) (vi k) (H.push (.cells false (on'.map vb))) = weighbridgelaw03_BitsBuilt_k1 x2 (vu b'') (.pointer (some ⟨H.size, 0, none⟩)) (H.push (.cells false (on''.map vb))) ∧ Told b'' on'' := by
      intro b' on' ht
      rw [weighbridgelaw03_BitsBuilt_k20_eq, bin_add_i (by omega) (by omega), Option.bind_some]
      exact ih (k + 1) b' on' (by omega) ht
    have lt : pBin .other .lss (vi (i : Int)) (Value.int .i64 64) = some (vb (decide ((i : Int) < 64))) := bin_lss
    rw [c, Option.bind_some, lt, Option.bind_some]
    by_cases h64 : (i : Int) < 64
    · have hi64 : i < 64 := by omega
      rw [decide_eq_true h64, cond_t, with_spec h.1, Option.bind_some, idxA_of hi64, Option.bind_some]
      simp only
      have s2 := st_on H on i (by rw [h.2.1]; exact hi64) true
      have s2 : pSt 1 (.pointer (some ⟨H.size, i, none⟩)) (Value.bool true) (H.push (.cells false (on.map vb))) = _ := s2
      rw [s2, Option.bind_some]
      exact nxt _ _ (told_with h hi64)
    · obtain ⟨j, hj⟩ : ∃ j : Nat, i = 64 + j := ⟨i - 64, by omega⟩
      have hj64 : j < 64 := by omega
      have sb : pBin .other .sub (vi (i : Int)) (Value.int .i64 64) = some (vi (j : Int)) := by
        have := bin_sub_i (cl := .other) (a := (i : Int)) (b := 64) (by omega) (by omega)
        rw [this, show (i : Int) - 64 = j from by omega]
      rw [decide_eq_false h64, cond_f, sb, Option.bind_some, Option.bind_some, without_spec h.1, Option.bind_some, idxA_of hj64, Option.bind_some]
      simp only
      have s2 := st_on H on j (by rw [h.2.1]; exact hj64) false
      have s2 : pSt 1 (.pointer (some ⟨H.size, j, none⟩)) (Value.bool false) (H.push (.cells false (on.map vb))) = _ := s2
      rw [s2, Option.bind_some]
      exact nxt _ _ (told_without h hj64)

theorem bitsBuilt {H : AH} {s : Value} {l : List Int} (hs : Ints H s l) (hT : Tab H) : ∃ H', FF n_weighbridgelaw03_BitsBuilt [s] H = some (vb true, H') := by
  have t0 : Told 0 (List.replicate 64 false) := ⟨by omega, by simp, fun j hj => by rw [List.getElem?_replicate, if_pos hj]; simp⟩
  obtain ⟨b, on, e1, t1⟩ := built_loop hs (vb false) (min l.length 200) 0 0 (List.replicate 64 false) (by omega) t0
  have e2 := built_check t1 (H := H) (vb false) 64 0 rfl
  obtain ⟨H2, e3, k3⟩ := awake_spec (hT.keep (Keeps.push H (.cells false (on.map vb))))
  refine ⟨H2, ?_⟩
  apply weighbridgelaw03_BitsBuilt_of
  rw [weighbridgelaw03_BitsBuilt_eq]
  show newK ((List.replicate 64 false).map vb) H _ = _
  simp only [newK]
  rw [weighbridgelaw03_BitsBuilt_k0_eq, weighbridgelaw03_BitsBuilt_k16_eq]
  have e1 : weighbridgelaw03_BitsBuilt_k18 s (Value.bool false) (Value.int .u64 0) (.pointer (some ⟨H.size, 0, none⟩)) (Value.int .i64 0) (H.push (.cells false ((List.replicate 64 false).map vb))) = _ := e1
  rw [e1, weighbridgelaw03_BitsBuilt_k1_eq, weighbridgelaw03_BitsBuilt_k4_eq]
  have e2 : weighbridgelaw03_BitsBuilt_k6 (vb false) (vu b) (.pointer (some ⟨H.size, 0, none⟩)) (Value.int .i64 0) (H.push (.cells false (on.map vb))) = _ := e2
  rw [e2, weighbridgelaw03_BitsBuilt_k2_eq, e3]
  rfl
end Go.Proofs.YtofbcaheogfkeaaDoor.Gst
