/- Several texts in one. -/
import Derived.Test.YtodpbobjmkhcfaaGreatDoorPd
namespace Go.Proofs.YtodpbobjmkhcfaaGreatDoor.Gst
open Go Go.RowKit
set_option linter.unusedSimpArgs false
set_option linter.unusedVariables false
set_option maxHeartbeats 1000000
set_option synthInstance.maxSize 2000
set_option synthInstance.maxHeartbeats 400000
theorem pl_len (L : List TP) : (pl L).length = L.length := List.length_map ..
theorem pl_app (X Y : List TP) : pl (X ++ Y) = pl X ++ pl Y := List.map_append ..
theorem Bel.append_right {X Y Z : List TP} : Bel X (Y ++ Z) ↔ Bel X Y ∧ Bel X Z :=
 ⟨fun h => ⟨fun x hx y hy => h x hx y (List.mem_append_left _ hy), fun x hx y hy => h x hx y (List.mem_append_right _ hy)⟩, fun h x hx y hy => (List.mem_append.1 hy).elim (h.1 x hx y) (h.2 x hx y)⟩
theorem insertion (A B : List Pt) (s : Value) (X : List TP) (hX : Asc X) (hb : A.length + X.length < 1000000) :
  Sp n_sIn [s, vi ((A.length : Nat) : Int), vi ((A.length + X.length : Nat) : Int), ordV] (ts 7 Pt.cells s (A ++ (pl X ++ B))) (fun _ : List TP => .tuple #[]) (fun Z => pu (Srt Z ∧ Z.Perm X) * ts 7 Pt.cells s (A ++ (pl Z ++ B))) := by
 refine sp_of fun R H h => ?_
 refine wp_of (fun r => sIn_of _ _ _ _ H) ?_
 refine w_bind (bin_add_i (by omega) (by omega)) ?_
 refine wp_eq (sIn_k0_eq ..) ?_
 have outer : ∀ (r S : List TP) (H : AH), Srt S → Asc r → Bel S r → (S ++ r).Perm X → Holds (ts 7 Pt.cells s (A ++ (pl S ++ (pl r ++ B))) * R) H →
   wp (sIn_k2 s (vi ((A.length : Nat) : Int)) (vi ((A.length + X.length : Nat) : Int)) ordV (vi ((A.length + S.length : Nat) : Int)) H) fun v' H' => ∃ Z : List TP, v' = .tuple #[] ∧ Holds (pu (Srt Z ∧ Z.Perm X) * ts 7 Pt.cells s (A ++ (pl Z ++ B)) * R) H' := by
  intro r
  induction r with
  | nil =>
   intro S H hS hr hSr hp hh
   have hlen := hp.length_eq
   rw [List.append_nil] at hp hlen
   refine wp_eq (sIn_k2_eq ..) ?_
   refine w_bind (lss_f (by omega)) ?_
   with_reducible repeat refine gg ?_
   refine wp_eq (sIn_e1_0_eq ..) ?_
   refine w_ret ⟨S, rfl, ?_⟩
   rw [sep_assoc, Holds.pu]
   exact ⟨⟨hS, hp⟩, by simpa using hh⟩
  | cons x r ih =>
   intro S H hS hr hSr hp hh
   have hlen := hp.length_eq
   rw [List.length_append, List.length_cons] at hlen
   refine wp_eq (sIn_k2_eq ..) ?_
   refine w_bind (lss_t (by omega)) ?_
   with_reducible repeat refine gg ?_
   refine wp_eq (sIn_k3_eq ..) ?_
   refine wp_eq (sIn_k7_eq ..) ?_
   -- x goes down
   have inner : ∀ (d : Nat) (S1 S2 : List TP) (H : AH), S1.length = d → S1 ++ S2 = S → (∀ z ∈ S2, x.2.step < z.2.step) → Holds (ts 7 Pt.cells s (A ++ (pl S1 ++ (x.2 :: (pl S2 ++ (pl r ++ B))))) * R) H →
     wp (sIn_k9 s (vi ((A.length : Nat) : Int)) (vi ((A.length + X.length : Nat) : Int)) ordV (vi ((A.length + S.length : Nat) : Int)) (vi ((A.length + S1.length : Nat) : Int)) H) fun v' H' => ∃ Z : List TP, v' = .tuple #[] ∧ Holds (pu (Srt Z ∧ Z.Perm X) * ts 7 Pt.cells s (A ++ (pl Z ++ B)) * R) H' := by
    intro d
    induction d with
    | zero =>
     intro S1 S2 H hd hS12 hz h2
     have hS1 : S1 = [] := List.eq_nil_of_length_eq_zero hd
     subst hS1
     refine wp_eq (sIn_k9_eq ..) ?_
     refine w_bind (gtr_f (by simp)) ?_
     with_reducible repeat refine gg ?_
     refine wp_eq (sIn_e8_2_eq ..) ?_
     refine wp_eq (sIn_k4_eq ..) ?_
     refine w_bind (bin_add_i (by omega) (by omega)) ?_
     rw [List.nil_append] at hS12
     subst hS12
     have := ih (x :: S2) H (srt_cons.2 ⟨fun z hz2 => .inl (hz z hz2), hS⟩) (List.pairwise_cons.1 hr).2 (fun a ha b hb2 => by
      rcases List.mem_cons.1 ha with e | ha
      ·subst e; exact (List.pairwise_cons.1 hr).1 b hb2
      ·exact hSr a ha b (List.mem_cons_of_mem _ hb2)) ((List.perm_middle (l₁ := S2) (l₂ := r) (a := x)).symm.trans hp) (by simpa using h2)
     rw [List.length_cons] at this
     rw [show ((A.length + S2.length : Nat) : Int) + 1 = ((A.length + (S2.length + 1) : Nat) : Int) from by omega]
     exact this
    | succ d ihd =>
     intro S1 S2 H hd hS12 hz h2
     obtain ⟨S0, y, rfl⟩ : ∃ S0 y, S1 = S0 ++ [y] := by
      refine ⟨S1.dropLast, S1.getLast (by intro e; rw [e] at hd; simp at hd), ?_⟩
      rw [List.dropLast_concat_getLast]
     have hd0 : S0.length = d := by simpa using hd
     have hSl := congrArg List.length hS12
     simp only [List.length_append, List.length_singleton] at hSl
     have el : A ++ (pl (S0 ++ [y]) ++ (x.2 :: (pl S2 ++ (pl r ++ B)))) = (A ++ pl S0) ++ y.2 :: ([] ++ x.2 :: (pl S2 ++ (pl r ++ B))) := by simp [pl]
     rw [el] at h2
     refine wp_eq (sIn_k9_eq ..) ?_
     refine w_bind (gtr_t (by simp; omega)) ?_
     with_reducible repeat refine gg ?_
     rw [show (((A.length + (S0 ++ [y]).length : Nat)) : Int) = ((A.length + S0.length + 1 : Nat) : Int) from by simp; omega]
     refine w_tat (i := A.length + S0.length + 1) rfl h2 (at2 (by simp [pl])) ?_
     with_reducible repeat refine gg ?_
     refine w_bind (bin_sub_i (by omega) (by omega)) ?_
     with_reducible repeat refine gg ?_
     refine w_tat (i := A.length + S0.length) (by omega) h2 (at_mid' (by simp [pl])) ?_
     refine w_gE_tt ?_
     refine w_ord h2 fun H3 h3 => ?_
     by_cases hc : x.2.step < y.2.step
     ·refine w_gB_tt ?_
      refine w_bind (cmpP_lt hc) ?_
      with_reducible repeat refine gg ?_
      refine wp_eq (sIn_k10_eq ..) ?_
      refine w_bind (bin_sub_i (by omega) (by omega)) ?_
      refine w_bind (bin_sub_i (by omega) (by omega)) ?_
      refine w_swap (i := A.length + S0.length + 1) (j := A.length + S0.length) rfl (by omega) h3 (at2 (by simp [pl])) (at_mid' (by simp [pl])) fun H4 h4 => ?_
      rw [swap2' (by simp [pl]) (by simp [pl])] at h4
      refine wp_eq (sIn_k11_eq ..) ?_
      refine w_bind (bin_sub_i (by omega) (by omega)) ?_
      have := ihd S0 (y :: S2) H4 hd0 (by rw [← hS12]; simp) (fun z hz2 => by
       rcases List.mem_cons.1 hz2 with e | hz2
       ·subst e; exact hc
       ·exact hz z hz2) (by
       have e2 : (A ++ pl S0) ++ x.2 :: ([] ++ y.2 :: (pl S2 ++ (pl r ++ B))) = A ++ (pl S0 ++ (x.2 :: (pl (y :: S2) ++ (pl r ++ B)))) := by simp [pl]
       rw [e2] at h4
       exact h4.to)
      rw [show ((A.length + S0.length + 1 : Nat) : Int) - 1 = ((A.length + S0.length : Nat) : Int) from by omega]
      exact this
     ·refine w_gB_tt ?_
      refine w_bind (cmpP_ge hc) ?_
      with_reducible repeat refine gg ?_
      refine wp_eq (sIn_e8_2_eq ..) ?_
      refine wp_eq (sIn_k4_eq ..) ?_
      refine w_bind (bin_add_i (by omega) (by omega)) ?_
      rw [← hS12] at hS hSr hp
      have hS1s := (srt_append.1 hS).1
      have hx1 : ∀ z ∈ S0 ++ [y], ltT z x := by
       intro z hz1
       have hzt := hSr z (List.mem_append_left _ hz1) x (List.mem_cons_self ..)
       have : z.2.step ≤ y.2.step := by
        rcases List.mem_append.1 hz1 with h | h
        ·exact ltT_le ((srt_append.1 hS1s).2.2 z h y (List.mem_singleton.2 rfl))
        ·rw [List.mem_singleton.1 h]; exact Int.le_refl _
       unfold ltT
       omega
      have := ih ((S0 ++ [y]) ++ x :: S2) H3 (srt_append.2 ⟨hS1s, srt_cons.2 ⟨fun z hz2 => .inl (hz z hz2), (srt_append.1 hS).2.1⟩, fun a ha b hb2 => by
       rcases List.mem_cons.1 hb2 with e | hb2
       ·subst e; exact hx1 a ha
       ·exact (srt_append.1 hS).2.2 a ha b hb2⟩) (List.pairwise_cons.1 hr).2 (fun a ha b hb2 => by
       rcases List.mem_append.1 ha with ha | ha
       ·exact hSr a (List.mem_append_left _ ha) b (List.mem_cons_of_mem _ hb2)
       ·rcases List.mem_cons.1 ha with e | ha
        ·subst e; exact (List.pairwise_cons.1 hr).1 b hb2
        ·exact hSr a (List.mem_append_right _ ha) b (List.mem_cons_of_mem _ hb2)) (by
       refine List.Perm.trans ?_ hp
       have p1 : (x :: (S2 ++ r)).Perm (S2 ++ x :: r) := (List.perm_middle (l₁ := S2) (l₂ := r) (a := x)).symm
       simpa using (p1.append_left (S0 ++ [y]))) (by
       have e2 : (A ++ pl S0) ++ y.2 :: ([] ++ x.2 :: (pl S2 ++ (pl r ++ B))) = A ++ (pl ((S0 ++ [y]) ++ x :: S2) ++ (pl r ++ B)) := by simp [pl]
       rw [← e2]
       exact h3.to)
      have e3 : ((S0 ++ [y]) ++ x :: S2).length = S.length + 1 := by simp; omega
      rw [e3] at this
      rw [show ((A.length + S.length : Nat) : Int) + 1 = ((A.length + (S.length + 1) : Nat) : Int) from by omega]
      exact this
   exact inner S.length S [] H rfl (List.append_nil S) (fun z hz => by cases hz) (by simpa using hh)
 cases X with
 | nil =>
  refine wp_eq (sIn_k2_eq ..) ?_
  refine w_bind (lss_f (by simp; omega)) ?_
  with_reducible repeat refine gg ?_
  refine wp_eq (sIn_e1_0_eq ..) ?_
  refine w_ret ⟨[], rfl, ?_⟩
  rw [sep_assoc, Holds.pu]
  exact ⟨⟨srt_nil, List.Perm.refl _⟩, h⟩
 | cons x X =>
  have := outer X [x] H (srt_one x) (List.pairwise_cons.1 hX).2 (fun a ha b hb2 => by rw [List.mem_singleton.1 ha]; exact (List.pairwise_cons.1 hX).1 b hb2) (List.Perm.refl _) (by simpa using h)
  rw [List.length_singleton] at this
  rw [show ((A.length : Nat) : Int) + 1 = ((A.length + 1 : Nat) : Int) from by omega]
  exact this
theorem srt_mono {L : List TP} (h : Srt L) {i j : Nat} (hij : i ≤ j) (hj : j < L.length) : (L[i]'(by omega)).2.step ≤ L[j].2.step := by
 by_cases e : i = j
 ·subst e; exact Int.le_refl _
 ·exact ltT_le (List.pairwise_iff_getElem.1 h i j (by omega) hj (by omega))
theorem srt_cut {X1 X2 Y1 Y2 Z1 Z2 : List TP} (hX : Srt (X1 ++ X2)) (hY : Srt (Y1 ++ Y2)) (hB : Bel (X1 ++ X2) (Y1 ++ Y2)) (h1 : ∀ x ∈ X1, ∀ y ∈ Y2, x.2.step ≤ y.2.step) (h2 : ∀ y ∈ Y1, ∀ x ∈ X2, y.2.step < x.2.step)
  (z1 : Srt Z1) (z2 : Srt Z2) (p1 : Z1.Perm (X1 ++ Y1)) (p2 : Z2.Perm (X2 ++ Y2)) : Srt (Z1 ++ Z2) ∧ (Z1 ++ Z2).Perm ((X1 ++ X2) ++ (Y1 ++ Y2)) := by
 refine ⟨srt_append.2 ⟨z1, z2, fun a ha b hb => ?_⟩, ?_⟩
 ·rcases List.mem_append.1 (p1.mem_iff.1 ha) with ha | ha <;> rcases List.mem_append.1 (p2.mem_iff.1 hb) with hb | hb
  ·exact (srt_append.1 hX).2.2 a ha b hb
  ·have := h1 a ha b hb
   have := hB a (List.mem_append_left _ ha) b (List.mem_append_right _ hb)
   unfold ltT
   omega
  ·exact .inl (h2 a ha b hb)
  ·exact (srt_append.1 hY).2.2 a ha b hb
 ·refine (p1.append p2).trans ?_
  have : ((X1 ++ Y1) ++ (X2 ++ Y2)).Perm ((X1 ++ X2) ++ (Y1 ++ Y2)) := by
   rw [List.append_assoc, List.append_assoc]
   refine List.Perm.append_left X1 ?_
   rw [← List.append_assoc, ← List.append_assoc]
   exact List.Perm.append_right Y2 List.perm_append_comm
  exact this
theorem mem_take_at {L : List TP} {n : Nat} {x : TP} (h : x ∈ L.take n) : ∃ i, ∃ (hi : i < L.length), i < n ∧ L[i] = x := by
 obtain ⟨i, hi, e⟩ := List.mem_iff_getElem.1 h
 rw [List.length_take] at hi
 exact ⟨i, by omega, by omega, by rw [← e, List.getElem_take]⟩
theorem mem_drop_at {L : List TP} {n : Nat} {x : TP} (h : x ∈ L.drop n) : ∃ i, ∃ (hi : i < L.length), n ≤ i ∧ L[i] = x := by
 obtain ⟨i, hi, e⟩ := List.mem_iff_getElem.1 h
 rw [List.length_drop] at hi
 exact ⟨n + i, by omega, by omega, by rw [← e, List.getElem_drop]⟩
section
variable (A B : List Pt) (s : Value) (X Y : List TP)
theorem at_X {C : Nat} (hC : C < X.length) {i : Nat} (hi : i = A.length + C) : (A ++ (pl X ++ (pl Y ++ B)))[i]? = some X[C].2 := by
 subst hi
 rw [List.getElem?_append_right (by omega), Nat.add_sub_cancel_left, List.getElem?_append_left (by rw [pl_len]; exact hC), List.getElem?_map, List.getElem?_eq_getElem hC]; rfl
theorem at_Y {C : Nat} (hC : C < Y.length) {i : Nat} (hi : i = A.length + X.length + C) : (A ++ (pl X ++ (pl Y ++ B)))[i]? = some Y[C].2 := by
 subst hi
 rw [List.getElem?_append_right (by omega), List.getElem?_append_right (by rw [pl_len]; omega), pl_len, show A.length + X.length + C - A.length - X.length = C from by omega, List.getElem?_append_left (by rw [pl_len]; exact hC), List.getElem?_map, List.getElem?_eq_getElem hC]; rfl
end
theorem bubble_up (s : Value) (x : Pt) (Q : List Pt) {R : SP} : ∀ (M P : List Pt) (H : AH), P.length + M.length < 1000000 → Holds (ts 7 Pt.cells s (P ++ x :: (M ++ Q)) * R) H →
  wp (sMg_k93 s (vi ((P.length + M.length + 1 : Nat) : Int)) (vi ((P.length : Nat) : Int)) H) fun v' H' => v' = .tuple #[] ∧ Holds (ts 7 Pt.cells s (P ++ (M ++ x :: Q)) * R) H' := by
 intro M
 induction M with
 | nil =>
  intro P H hb hh
  refine wp_eq (sMg_k93_eq ..) ?_
  rw [List.length_nil, Nat.add_zero]
  refine w_bind (bin_sub_i (by omega) (by omega)) ?_
  refine w_bind (lss_f (by omega)) ?_
  with_reducible repeat refine gg ?_
  refine wp_eq (sMg_e92_2_eq ..) ?_
  refine wp_eq (sMg_k90_eq ..) ?_
  exact w_ret ⟨rfl, hh⟩
 | cons y M ih =>
  intro P H hb hh
  rw [List.length_cons] at hb
  refine wp_eq (sMg_k93_eq ..) ?_
  rw [List.length_cons]
  refine w_bind (bin_sub_i (by omega) (by omega)) ?_
  refine w_bind (lss_t (by omega)) ?_
  with_reducible repeat refine gg ?_
  refine wp_eq (sMg_k94_eq ..) ?_
  refine w_bind (bin_add_i (by omega) (by omega)) ?_
  refine w_bind (bin_add_i (by omega) (by omega)) ?_
  have e : P ++ x :: ((y :: M) ++ Q) = P ++ x :: ([] ++ y :: (M ++ Q)) := rfl
  rw [e] at hh
  refine w_swap (i := P.length) (j := P.length + 1) rfl (by omega) hh (at_mid' rfl) (at2 (by simp)) fun H2 h2 => ?_
  rw [swap2 rfl (by simp)] at h2
  refine wp_eq (sMg_k95_eq ..) ?_
  refine w_bind (bin_add_i (by omega) (by omega)) ?_
  have := ih (P ++ [y]) H2 (by simp; omega) (by
   have e2 : P ++ y :: ([] ++ x :: (M ++ Q)) = (P ++ [y]) ++ x :: (M ++ Q) := by simp
   rw [← e2]
   exact h2.to)
  rw [List.length_append, List.length_singleton, show P.length + 1 + M.length + 1 = P.length + (M.length + 1) + 1 from by omega] at this
  rw [show ((P.length : Nat) : Int) + 1 = ((P.length + 1 : Nat) : Int) from by omega]
  refine wp_imp ?_ this
  rintro v' H' ⟨e1, h3⟩
  refine ⟨e1, ?_⟩
  have e3 : (P ++ [y]) ++ (M ++ x :: Q) = P ++ ((y :: M) ++ x :: Q) := by simp
  rw [e3] at h3
  exact h3
theorem bubble_down (s : Value) (y : Pt) {R : SP} : ∀ (d : Nat) (M P Q : List Pt) (H : AH), M.length = d → P.length + M.length < 1000000 → Holds (ts 7 Pt.cells s (P ++ (M ++ y :: Q)) * R) H →
  wp (sMg_k58 s (vi ((P.length : Nat) : Int)) (vi ((P.length + M.length : Nat) : Int)) H) fun v' H' => v' = .tuple #[] ∧ Holds (ts 7 Pt.cells s (P ++ y :: (M ++ Q)) * R) H' := by
 intro d
 induction d with
 | zero =>
  intro M P Q H hd hb hh
  have : M = [] := List.eq_nil_of_length_eq_zero hd
  subst this
  refine wp_eq (sMg_k58_eq ..) ?_
  refine w_bind (gtr_f (by simp)) ?_
  with_reducible repeat refine gg ?_
  refine wp_eq (sMg_e57_6_eq ..) ?_
  refine wp_eq (sMg_k55_eq ..) ?_
  exact w_ret ⟨rfl, hh⟩
 | succ d ih =>
  intro M P Q H hd hb hh
  obtain ⟨M0, z, rfl⟩ : ∃ M0 z, M = M0 ++ [z] := ⟨M.dropLast, M.getLast (by intro e; rw [e] at hd; simp at hd), by rw [List.dropLast_concat_getLast]⟩
  have hd0 : M0.length = d := by simpa using hd
  rw [List.length_append, List.length_singleton] at hb
  refine wp_eq (sMg_k58_eq ..) ?_
  rw [List.length_append, List.length_singleton]
  refine w_bind (gtr_t (by omega)) ?_
  with_reducible repeat refine gg ?_
  refine wp_eq (sMg_k59_eq ..) ?_
  refine w_bind (bin_sub_i (by omega) (by omega)) ?_
  refine w_bind (bin_sub_i (by omega) (by omega)) ?_
  have e : P ++ ((M0 ++ [z]) ++ y :: Q) = (P ++ M0) ++ z :: ([] ++ y :: Q) := by simp
  rw [e] at hh
  refine w_swap (i := P.length + M0.length + 1) (j := P.length + M0.length) (by omega) (by omega) hh (at2 (by simp)) (at_mid' (by simp)) fun H2 h2 => ?_
  rw [swap2' (by simp) (by simp)] at h2
  refine wp_eq (sMg_k60_eq ..) ?_
  refine w_bind (bin_sub_i (by omega) (by omega)) ?_
  have := ih M0 P (z :: Q) H2 hd0 (by omega) (by
   have e2 : (P ++ M0) ++ y :: ([] ++ z :: Q) = P ++ (M0 ++ y :: (z :: Q)) := by simp
   rw [← e2]
   exact h2.to)
  rw [show ((P.length + (M0.length + 1) : Nat) : Int) - 1 = ((P.length + M0.length : Nat) : Int) from by omega]
  refine wp_imp ?_ this
  rintro v' H' ⟨e1, h3⟩
  refine ⟨e1, ?_⟩
  have e3 : P ++ y :: (M0 ++ z :: Q) = P ++ y :: ((M0 ++ [z]) ++ Q) := by simp
  rw [e3] at h3
  exact h3
section
variable (A B : List Pt) (s : Value) (X Y : List TP) (hX : Srt X) (hY : Srt Y) (hB : Bel X Y) (hb : A.length + X.length + Y.length < 1000000)
include hX hY hB hb
theorem merge_first (x : TP) (hx : X = [x]) {R : SP} {H : AH} (h : Holds (ts 7 Pt.cells s (A ++ (pl X ++ (pl Y ++ B))) * R) H) :
  wp (sMg_k88 s (vi ((A.length : Nat) : Int)) ordV (vi ((A.length + X.length : Nat) : Int)) (vi ((A.length + X.length + Y.length : Nat) : Int)) H) fun v' H' => ∃ Z : List TP, v' = .tuple #[] ∧ Holds (pu (Srt Z ∧ Z.Perm (X ++ Y)) * ts 7 Pt.cells s (A ++ (pl Z ++ B)) * R) H' := by
 have hXl : X.length = 1 := by rw [hx]; rfl
 have hx0 : X[0]'(by omega) = x := by subst hx; rfl
 refine wp_eq (sMg_k88_eq ..) ?_
 have bin : ∀ (d i j : Nat) (H : AH), j - i = d → i ≤ j → j ≤ Y.length → (∀ C, ∀ hC : C < Y.length, C < i → Y[C].2.step < x.2.step) → (∀ C, ∀ hC : C < Y.length, j ≤ C → ¬ Y[C].2.step < x.2.step) → Holds (ts 7 Pt.cells s (A ++ (pl X ++ (pl Y ++ B))) * R) H →
   wp (sMg_k107 s (vi ((A.length : Nat) : Int)) ordV (vi ((A.length + X.length + i : Nat) : Int)) (vi ((A.length + X.length + j : Nat) : Int)) H) fun v' H' => ∃ Z : List TP, v' = .tuple #[] ∧ Holds (pu (Srt Z ∧ Z.Perm (X ++ Y)) * ts 7 Pt.cells s (A ++ (pl Z ++ B)) * R) H' := by
  intro d
  induction d using Nat.strongRecOn with
  | ind d ih =>
   intro i j H hd hij hj hlo hhi hh
   refine wp_eq (sMg_k107_eq ..) ?_
   by_cases hlt : i < j
   ·refine w_bind (lss_t (by omega)) ?_
    with_reducible repeat refine gg ?_
    refine wp_eq (sMg_k108_eq ..) ?_
    refine w_mid rfl rfl (by omega) ?_
    have hm : (A.length + X.length + i + (A.length + X.length + j)) / 2 = A.length + X.length + (i + j) / 2 := by omega
    rw [hm]
    have hc : (i + j) / 2 < Y.length := by omega
    refine w_tat (i := A.length + X.length + (i + j) / 2) rfl hh (at_Y A B X Y hc rfl) ?_
    refine w_tat (i := A.length) rfl hh (at_X A B X Y (C := 0) (by omega) (by omega)) ?_
    refine w_ord hh fun H1 h1 => ?_
    rw [hx0]
    by_cases hcmp : Y[(i + j) / 2].2.step < x.2.step
    ·refine w_bind (cmpP_lt hcmp) ?_
     with_reducible repeat refine gg ?_
     refine w_bind (bin_add_i (by omega) (by omega)) ?_
     rw [show ((A.length + X.length + (i + j) / 2 : Nat) : Int) + 1 = ((A.length + X.length + ((i + j) / 2 + 1) : Nat) : Int) from by omega]
     refine ih (j - ((i + j) / 2 + 1)) (by omega) ((i + j) / 2 + 1) j H1 rfl (by omega) hj (fun C hC hCl => ?_) hhi h1
     have := srt_mono hY (i := C) (j := (i + j) / 2) (by omega) hc
     omega
    ·refine w_bind (cmpP_ge hcmp) ?_
     with_reducible repeat refine gg ?_
     refine ih ((i + j) / 2 - i) (by omega) i ((i + j) / 2) H1 rfl (by omega) (by omega) hlo (fun C hC hCl => ?_) h1
     have := srt_mono hY (i := (i + j) / 2) (j := C) hCl hC
     omega
   ·refine w_bind (lss_f (by omega)) ?_
    with_reducible repeat refine gg ?_
    have e : j = i := by omega
    subst e
    refine wp_eq (sMg_e106_0_eq ..) ?_
    refine wp_eq (sMg_k89_eq ..) ?_
    refine wp_eq (sMg_k91_eq ..) ?_
    have ht : (pl (Y.take j)).length = j := by rw [pl_len, List.length_take]; omega
    have eY : Y.take j ++ Y.drop j = Y := List.take_append_drop ..
    have b := bubble_up s x.2 (pl (Y.drop j) ++ B) (R := R) (pl (Y.take j)) A H (by omega) (by
     have e2 : A ++ (pl X ++ (pl Y ++ B)) = A ++ x.2 :: (pl (Y.take j) ++ (pl (Y.drop j) ++ B)) := by
      rw [← List.append_assoc (pl (Y.take j)), ← pl_app, eY, hx]; rfl
     rw [← e2]
     exact hh)
    rw [ht] at b
    rw [hXl, show A.length + 1 + j = A.length + j + 1 from by omega]
    refine wp_imp ?_ b
    rintro v' H' ⟨e1, h3⟩
    refine ⟨Y.take j ++ x :: Y.drop j, e1, ?_⟩
    rw [sep_assoc, Holds.pu]
    have hYs := srt_append.1 (by rw [eY]; exact hY : Srt (Y.take j ++ Y.drop j))
    have hbel : ∀ y ∈ Y, x.1 < y.1 := fun y hy => hB x (by rw [hx]; exact List.mem_singleton.2 rfl) y hy
    refine ⟨⟨srt_append.2 ⟨hYs.1, srt_cons.2 ⟨fun y hy => ?_, hYs.2.1⟩, fun a ha b hb2 => ?_⟩, ?_⟩, ?_⟩
    ·obtain ⟨i, hi, hge, rfl⟩ := mem_drop_at hy
     have := hhi i hi hge
     have := hbel _ (List.getElem_mem hi)
     unfold ltT
     omega
    ·rcases List.mem_cons.1 hb2 with e3 | hb2
     ·subst e3
      obtain ⟨i, hi, hlt2, rfl⟩ := mem_take_at ha
      exact .inl (hlo i hi hlt2)
     ·exact hYs.2.2 a ha b hb2
    ·refine (List.perm_middle (l₁ := Y.take j) (l₂ := Y.drop j) (a := x)).trans ?_
     rw [eY, hx]
     exact List.Perm.refl _
    ·have e4 : A ++ (pl (Y.take j) ++ x.2 :: (pl (Y.drop j) ++ B)) = A ++ (pl (Y.take j ++ x :: Y.drop j) ++ B) := by simp [pl]
     rw [e4] at h3
     exact h3
 have := bin Y.length 0 Y.length H rfl (Nat.zero_le _) (Nat.le_refl _) (fun C hC hl => by omega) (fun C hC hl => by omega) h
 exact this
theorem merge_last (y : TP) (hy : Y = [y]) {R : SP} {H : AH} (h : Holds (ts 7 Pt.cells s (A ++ (pl X ++ (pl Y ++ B))) * R) H) :
  wp (sMg_k53 s (vi ((A.length + X.length : Nat) : Int)) ordV (vi ((A.length : Nat) : Int)) (vi ((A.length + X.length : Nat) : Int)) H) fun v' H' => ∃ Z : List TP, v' = .tuple #[] ∧ Holds (pu (Srt Z ∧ Z.Perm (X ++ Y)) * ts 7 Pt.cells s (A ++ (pl Z ++ B)) * R) H' := by
 have hYl : Y.length = 1 := by rw [hy]; rfl
 have hy0 : Y[0]'(by omega) = y := by subst hy; rfl
 refine wp_eq (sMg_k53_eq ..) ?_
 have bin : ∀ (d i j : Nat) (H : AH), j - i = d → i ≤ j → j ≤ X.length → (∀ C, ∀ hC : C < X.length, C < i → ¬ y.2.step < X[C].2.step) → (∀ C, ∀ hC : C < X.length, j ≤ C → y.2.step < X[C].2.step) → Holds (ts 7 Pt.cells s (A ++ (pl X ++ (pl Y ++ B))) * R) H →
   wp (sMg_k71 s (vi ((A.length + X.length : Nat) : Int)) ordV (vi ((A.length + i : Nat) : Int)) (vi ((A.length + j : Nat) : Int)) H) fun v' H' => ∃ Z : List TP, v' = .tuple #[] ∧ Holds (pu (Srt Z ∧ Z.Perm (X ++ Y)) * ts 7 Pt.cells s (A ++ (pl Z ++ B)) * R) H' := by
  intro d
  induction d using Nat.strongRecOn with
  | ind d ih =>
   intro i j H hd hij hj hlo hhi hh
   refine wp_eq (sMg_k71_eq ..) ?_
   by_cases hlt : i < j
   ·refine w_bind (lss_t (by omega)) ?_
    with_reducible repeat refine gg ?_
    refine wp_eq (sMg_k72_eq ..) ?_
    refine w_mid rfl rfl (by omega) ?_
    have hm : (A.length + i + (A.length + j)) / 2 = A.length + (i + j) / 2 := by omega
    rw [hm]
    have hc : (i + j) / 2 < X.length := by omega
    refine w_tat (i := A.length + X.length) rfl hh (at_Y A B X Y (C := 0) (by omega) rfl) ?_
    refine w_tat (i := A.length + (i + j) / 2) rfl hh (at_X A B X Y hc rfl) ?_
    refine w_ord hh fun H1 h1 => ?_
    rw [hy0]
    by_cases hcmp : y.2.step < X[(i + j) / 2].2.step
    ·refine w_bind (cmpP_lt hcmp) ?_
     with_reducible repeat refine gg ?_
     rw [Bool.not_true]
     with_reducible repeat refine gg ?_
     refine ih ((i + j) / 2 - i) (by omega) i ((i + j) / 2) H1 rfl (by omega) (by omega) hlo (fun C hC hCl => ?_) h1
     have := srt_mono hX (i := (i + j) / 2) (j := C) hCl hC
     omega
    ·refine w_bind (cmpP_ge hcmp) ?_
     with_reducible repeat refine gg ?_
     rw [Bool.not_false]
     with_reducible repeat refine gg ?_
     refine w_bind (bin_add_i (by omega) (by omega)) ?_
     rw [show ((A.length + (i + j) / 2 : Nat) : Int) + 1 = ((A.length + ((i + j) / 2 + 1) : Nat) : Int) from by omega]
     refine ih (j - ((i + j) / 2 + 1)) (by omega) ((i + j) / 2 + 1) j H1 rfl (by omega) hj (fun C hC hCl => ?_) hhi h1
     have := srt_mono hX (i := C) (j := (i + j) / 2) (by omega) hc
     omega
   ·refine w_bind (lss_f (by omega)) ?_
    with_reducible repeat refine gg ?_
    have e : j = i := by omega
    subst e
    refine wp_eq (sMg_e70_4_eq ..) ?_
    refine wp_eq (sMg_k54_eq ..) ?_
    refine wp_eq (sMg_k56_eq ..) ?_
    have ht : (A ++ pl (X.take j)).length = A.length + j := by rw [List.length_append, pl_len, List.length_take]; omega
    have ht2 : (pl (X.drop j)).length = X.length - j := by rw [pl_len, List.length_drop]
    have eX : X.take j ++ X.drop j = X := List.take_append_drop ..
    have b := bubble_down s y.2 (R := R) (X.length - j) (pl (X.drop j)) (A ++ pl (X.take j)) B H ht2 (by rw [ht, ht2]; omega) (by
     have e2 : A ++ (pl X ++ (pl Y ++ B)) = (A ++ pl (X.take j)) ++ (pl (X.drop j) ++ y.2 :: B) := by
      rw [List.append_assoc, ← List.append_assoc (pl (X.take j)), ← pl_app, eX, hy]; rfl
     rw [← e2]
     exact hh)
    rw [ht, ht2, show A.length + j + (X.length - j) = A.length + X.length from by omega] at b
    refine wp_imp ?_ b
    rintro v' H' ⟨e1, h3⟩
    refine ⟨X.take j ++ y :: X.drop j, e1, ?_⟩
    rw [sep_assoc, Holds.pu]
    have hXs := srt_append.1 (by rw [eX]; exact hX : Srt (X.take j ++ X.drop j))
    have hbel : ∀ x ∈ X, x.1 < y.1 := fun x hx => hB x hx y (by rw [hy]; exact List.mem_singleton.2 rfl)
    refine ⟨⟨srt_append.2 ⟨hXs.1, srt_cons.2 ⟨fun z hz => ?_, hXs.2.1⟩, fun a ha b hb2 => ?_⟩, ?_⟩, ?_⟩
    ·obtain ⟨i, hi, hge, rfl⟩ := mem_drop_at hz
     exact .inl (hhi i hi hge)
    ·rcases List.mem_cons.1 hb2 with e3 | hb2
     ·subst e3
      obtain ⟨i, hi, hlt2, rfl⟩ := mem_take_at ha
      have := hlo i hi hlt2
      have := hbel _ (List.getElem_mem hi)
      unfold ltT
      omega
     ·exact hXs.2.2 a ha b hb2
    ·refine (List.perm_middle (l₁ := X.take j) (l₂ := X.drop j) (a := y)).trans ?_
     rw [eX, hy]
     exact (List.perm_append_comm (l₁ := [y]) (l₂ := X))
    ·have e4 : (A ++ pl (X.take j)) ++ y.2 :: (pl (X.drop j) ++ B) = A ++ (pl (X.take j ++ y :: X.drop j) ++ B) := by simp [pl]
     rw [e4] at h3
     exact h3
 have := bin X.length 0 X.length H rfl (Nat.zero_le _) (Nat.le_refl _) (fun C hC hl => by omega) (fun C hC hl => by omega) h
 rw [Nat.add_zero] at this
 exact this
end
def LoP (X Y : List TP) (hf S : Nat) : Prop := ∃ C, C + 1 = S ∧ ∃ (h1 : C < X.length) (h2 : hf - 1 - C < Y.length), X[C].2.step ≤ Y[hf - 1 - C].2.step
def HiP (X Y : List TP) (hf S : Nat) : Prop := ∃ (h1 : S < X.length) (h2 : hf - 1 - S < Y.length), S < hf ∧ Y[hf - 1 - S].2.step < X[S].2.step
theorem sym_merge (s : Value) : ∀ (N : Nat) (A B : List Pt) (X Y : List TP), X.length + Y.length ≤ N → 1 ≤ X.length → 1 ≤ Y.length → Srt X → Srt Y → Bel X Y → A.length + X.length + Y.length < 1000000 →
  Sp n_sMg [s, vi ((A.length : Nat) : Int), vi ((A.length + X.length : Nat) : Int), vi ((A.length + X.length + Y.length : Nat) : Int), ordV] (ts 7 Pt.cells s (A ++ (pl X ++ (pl Y ++ B)))) (fun _ : List TP => .tuple #[]) (fun Z => pu (Srt Z ∧ Z.Perm (X ++ Y)) * ts 7 Pt.cells s (A ++ (pl Z ++ B))) := by
 intro N
 induction N with
 | zero => intro A B X Y hN hX1; omega
 | succ N ih =>
  intro A B X Y hN hX1 hY1 hX hY hB hb
  refine sp_of fun R H h => ?_
  refine wp_of (fun r => sMg_of _ _ _ _ _ H) ?_
  refine w_bind (bin_sub_i (by omega) (by omega)) ?_
  by_cases hx1 : X.length = 1
  ·refine w_bind (eql_t (by omega)) ?_
   refine wp_eq (sMg_k87_eq ..) ?_
   with_reducible repeat refine gg ?_
   obtain ⟨x, hx⟩ := List.length_eq_one_iff.1 hx1
   exact merge_first A B s X Y hX hY hB hb x hx h
  ·refine w_bind (eql_f (by omega)) ?_
   refine wp_eq (sMg_k87_eq ..) ?_
   with_reducible repeat refine gg ?_
   refine wp_eq (sMg_k0_eq ..) ?_
   refine w_bind (bin_sub_i (by omega) (by omega)) ?_
   by_cases hy1 : Y.length = 1
   ·refine w_bind (eql_t (by omega)) ?_
    refine wp_eq (sMg_k52_eq ..) ?_
    with_reducible repeat refine gg ?_
    obtain ⟨y, hy⟩ := List.length_eq_one_iff.1 hy1
    exact merge_last A B s X Y hX hY hB hb y hy h
   ·refine w_bind (eql_f (by omega)) ?_
    refine wp_eq (sMg_k52_eq ..) ?_
    with_reducible repeat refine gg ?_
    refine wp_eq (sMg_k1_eq ..) ?_
    refine w_mid rfl rfl (by omega) ?_
    obtain ⟨hf, hfe⟩ : ∃ hf, hf = (X.length + Y.length) / 2 := ⟨_, rfl⟩
    rw [show (A.length + (A.length + X.length + Y.length)) / 2 = A.length + hf from by omega]
    refine w_bind (bin_add_i (by omega) (by omega)) ?_
    refine wp_eq (sMg_k2_eq ..) ?_
    -- what is behind the search
    have rest : ∀ (S : Nat) (H : AH), S ≤ X.length → S ≤ hf → hf - S ≤ Y.length →
      (LoP X Y hf S ∨ S = 0 ∨ hf - S = Y.length) →
      (HiP X Y hf S ∨ S = X.length ∨ S = hf) →
      Holds (ts 7 Pt.cells s (A ++ (pl X ++ (pl Y ++ B))) * R) H →
      wp (sMg_k5 s (vi ((A.length : Nat) : Int)) (vi ((A.length + X.length : Nat) : Int)) (vi ((A.length + X.length + Y.length : Nat) : Int)) ordV (vi ((A.length + hf : Nat) : Int)) (vi (((A.length + hf : Nat) : Int) + ((A.length + X.length : Nat) : Int))) (vi ((A.length + S : Nat) : Int)) H)
       fun v' H' => ∃ Z : List TP, v' = .tuple #[] ∧ Holds (pu (Srt Z ∧ Z.Perm (X ++ Y)) * ts 7 Pt.cells s (A ++ (pl Z ++ B)) * R) H' := by
     intro S H hSX hSf hSY hlo hhi hh
     obtain ⟨E, hE⟩ : ∃ E, E = hf - S := ⟨_, rfl⟩
     have eX : X.take S ++ X.drop S = X := List.take_append_drop ..
     have eY : Y.take E ++ Y.drop E = Y := List.take_append_drop ..
     have l1 : (X.take S).length = S := by rw [List.length_take]; omega
     have l2 : (X.drop S).length = X.length - S := List.length_drop
     have l3 : (Y.take E).length = E := by rw [List.length_take]; omega
     have l4 : (Y.drop E).length = Y.length - E := List.length_drop
     have c1 : ∀ x ∈ X.take S, ∀ y ∈ Y.drop E, x.2.step ≤ y.2.step := by
      clear hhi
      intro x hx y hy
      obtain ⟨i, hi, hiS, rfl⟩ := mem_take_at hx
      obtain ⟨j, hj, hjE, rfl⟩ := mem_drop_at hy
      rcases hlo with ⟨C, hC, h1, h2, h3⟩ | h0 | h0
      ·have a1 := srt_mono hX (i := i) (j := C) (by omega) h1
       have a2 := srt_mono hY (i := hf - 1 - C) (j := j) (by omega) hj
       omega
      ·omega
      ·omega
     have c2 : ∀ y ∈ Y.take E, ∀ x ∈ X.drop S, y.2.step < x.2.step := by
      clear hlo
      intro y hy x hx
      obtain ⟨i, hi, hiS, rfl⟩ := mem_drop_at hx
      obtain ⟨j, hj, hjE, rfl⟩ := mem_take_at hy
      rcases hhi with ⟨h1, h2, h4, h3⟩ | h0 | h0
      ·have a1 := srt_mono hX (i := S) (j := i) (by omega) hi
       have a2 := srt_mono hY (i := j) (j := hf - 1 - S) (by omega) h2
       omega
      ·omega
      ·omega
     clear hlo hhi
     have sX := srt_append.1 (by rw [eX]; exact hX : Srt (X.take S ++ X.drop S))
     have sY := srt_append.1 (by rw [eY]; exact hY : Srt (Y.take E ++ Y.drop E))
     have hB' : Bel (X.take S ++ X.drop S) (Y.take E ++ Y.drop E) := by rw [eX, eY]; exact hB
     have b11 : Bel (X.take S) (Y.take E) := hB'.sub (fun x => List.mem_append_left _) (fun x => List.mem_append_left _)
     have b22 : Bel (X.drop S) (Y.drop E) := hB'.sub (fun x => List.mem_append_right _) (fun x => List.mem_append_right _)
     refine wp_eq (sMg_k5_eq ..) ?_
     refine w_bind (bin_sub_i (by omega) (by omega)) ?_
     rw [show ((A.length + hf : Nat) : Int) + ((A.length + X.length : Nat) : Int) - ((A.length + S : Nat) : Int) = ((A.length + X.length + E : Nat) : Int) from by omega]
     refine wp_eq (sMg_k6_eq ..) ?_
     -- the second halves
     have part2 : ∀ (Z1 : List TP) (H : AH), Srt Z1 → Z1.Perm (X.take S ++ Y.take E) → Holds (ts 7 Pt.cells s (A ++ (pl Z1 ++ (pl (X.drop S) ++ (pl (Y.drop E) ++ B)))) * R) H →
       wp (sMg_k8 s (vi ((A.length + X.length + Y.length : Nat) : Int)) ordV (vi ((A.length + hf : Nat) : Int)) (vi ((A.length + X.length + E : Nat) : Int)) H)
        fun v' H' => ∃ Z : List TP, v' = .tuple #[] ∧ Holds (pu (Srt Z ∧ Z.Perm (X ++ Y)) * ts 7 Pt.cells s (A ++ (pl Z ++ B)) * R) H' := by
      intro Z1 H hz1 hp1 h1
      have lz := hp1.length_eq
      rw [List.length_append, l1, l3] at lz
      have done : ∀ (Z2 : List TP) (H : AH), Srt Z2 → Z2.Perm (X.drop S ++ Y.drop E) → Holds (ts 7 Pt.cells s ((A ++ pl Z1) ++ (pl Z2 ++ B)) * R) H →
        ∃ Z : List TP, (.tuple #[] : Value) = .tuple #[] ∧ Holds (pu (Srt Z ∧ Z.Perm (X ++ Y)) * ts 7 Pt.cells s (A ++ (pl Z ++ B)) * R) H := by
       intro Z2 H hz2 hp2 h2
       have cut := srt_cut (by rw [eX]; exact hX) (by rw [eY]; exact hY) hB' c1 c2 hz1 hz2 hp1 hp2
       rw [eX, eY] at cut
       refine ⟨Z1 ++ Z2, rfl, ?_⟩
       rw [sep_assoc, Holds.pu]
       refine ⟨cut, ?_⟩
       rw [pl_app, List.append_assoc]
       rw [List.append_assoc] at h2
       exact h2
      refine wp_eq (sMg_k8_eq ..) ?_
      by_cases g1 : hf < X.length + E
      ·refine w_bind (lss_t (by omega)) ?_
       with_reducible repeat refine gg ?_
       by_cases g2 : E < Y.length
       ·refine w_bind (lss_t (by omega)) ?_
        with_reducible repeat refine gg ?_
        have m := ih (A ++ pl Z1) B (X.drop S) (Y.drop E) (by omega) (by omega) (by omega) sX.2.1 sY.2.1 b22 (by rw [List.length_append, pl_len]; omega)
        rw [List.length_append, pl_len, lz, l2, l4, show A.length + (S + E) = A.length + hf from by omega, show A.length + hf + (X.length - S) = A.length + X.length + E from by omega, show A.length + X.length + E + (Y.length - E) = A.length + X.length + Y.length from by omega] at m
        have h2 : Holds (ts 7 Pt.cells s ((A ++ pl Z1) ++ (pl (X.drop S) ++ (pl (Y.drop E) ++ B))) * R) H := by rw [List.append_assoc]; exact h1
        refine w_call h2 m fun Z2 H3 h3 => ?_
        rw [sep_assoc, Holds.pu] at h3
        exact w_ret (done Z2 H3 h3.1.1 h3.1.2 h3.2.to)
       ·refine w_bind (lss_f (by omega)) ?_
        with_reducible repeat refine gg ?_
        have e0 : Y.drop E = [] := List.eq_nil_of_length_eq_zero (by omega)
        exact w_ret (done (X.drop S) H sX.2.1 (by rw [e0, List.append_nil]) (by rw [e0] at h1; rw [List.append_assoc]; exact h1))
      ·refine w_bind (lss_f (by omega)) ?_
       with_reducible repeat refine gg ?_
       have e0 : X.drop S = [] := List.eq_nil_of_length_eq_zero (by omega)
       exact w_ret (done (Y.drop E) H sY.2.1 (by rw [e0, List.nil_append]) (by rw [e0] at h1; rw [List.append_assoc]; exact h1))
     -- the first halves
     have part1 : ∀ (H : AH), Holds (ts 7 Pt.cells s (A ++ (pl (X.take S) ++ (pl (Y.take E) ++ (pl (X.drop S) ++ (pl (Y.drop E) ++ B))))) * R) H →
       wp (sMg_k7 s (vi ((A.length : Nat) : Int)) (vi ((A.length + X.length + Y.length : Nat) : Int)) ordV (vi ((A.length + hf : Nat) : Int)) (vi ((A.length + S : Nat) : Int)) (vi ((A.length + X.length + E : Nat) : Int)) H)
        fun v' H' => ∃ Z : List TP, v' = .tuple #[] ∧ Holds (pu (Srt Z ∧ Z.Perm (X ++ Y)) * ts 7 Pt.cells s (A ++ (pl Z ++ B)) * R) H' := by
      intro H h1
      refine wp_eq (sMg_k7_eq ..) ?_
      by_cases g1 : 0 < S
      ·refine w_bind (lss_t (by omega)) ?_
       with_reducible repeat refine gg ?_
       by_cases g2 : S < hf
       ·refine w_bind (lss_t (by omega)) ?_
        with_reducible repeat refine gg ?_
        have m := ih A (pl (X.drop S) ++ (pl (Y.drop E) ++ B)) (X.take S) (Y.take E) (by omega) (by omega) (by omega) sX.1 sY.1 b11 (by omega)
        rw [l1, l3, show A.length + S + E = A.length + hf from by omega] at m
        refine w_call h1 m fun Z1 H3 h3 => ?_
        rw [sep_assoc, Holds.pu] at h3
        exact part2 Z1 H3 h3.1.1 h3.1.2 h3.2.to
       ·refine w_bind (lss_f (by omega)) ?_
        with_reducible repeat refine gg ?_
        have e0 : Y.take E = [] := List.eq_nil_of_length_eq_zero (by omega)
        exact part2 (X.take S) H sX.1 (by rw [e0, List.append_nil]) (by rw [e0] at h1; exact h1)
      ·refine w_bind (lss_f (by omega)) ?_
       with_reducible repeat refine gg ?_
       have e0 : X.take S = [] := List.eq_nil_of_length_eq_zero (by omega)
       exact part2 (Y.take E) H sY.1 (by rw [e0, List.nil_append]) (by rw [e0] at h1; exact h1)
     have e3 : A ++ (pl X ++ (pl Y ++ B)) = (A ++ pl (X.take S)) ++ (pl (X.drop S) ++ (pl (Y.take E) ++ (pl (Y.drop E) ++ B))) := by
      have p1 : pl X = pl (X.take S) ++ pl (X.drop S) := by rw [← pl_app, eX]
      have p2 : pl Y = pl (Y.take E) ++ pl (Y.drop E) := by rw [← pl_app, eY]
      rw [p1, p2]
      simp only [List.append_assoc]
     rw [e3] at hh
     by_cases g1 : S < X.length
     ·refine w_bind (lss_t (by omega)) ?_
      with_reducible repeat refine gg ?_
      by_cases g2 : 0 < E
      ·refine w_bind (lss_t (by omega)) ?_
       with_reducible repeat refine gg ?_
       have m := rotate_law s ordV (A ++ pl (X.take S)) (pl (X.drop S)) (pl (Y.take E)) (pl (Y.drop E) ++ B) (by rw [pl_len]; omega) (by rw [pl_len]; omega) (by rw [List.length_append, pl_len, pl_len, pl_len]; omega)
       rw [List.length_append, pl_len, pl_len, pl_len, l1, l2, l3, show A.length + S + (X.length - S) = A.length + X.length from by omega] at m
       refine w_call hh m fun _ H3 h3 => ?_
       refine part1 H3 ?_
       have e4 : (A ++ pl (X.take S)) ++ (pl (Y.take E) ++ (pl (X.drop S) ++ (pl (Y.drop E) ++ B))) = A ++ (pl (X.take S) ++ (pl (Y.take E) ++ (pl (X.drop S) ++ (pl (Y.drop E) ++ B)))) := by simp only [List.append_assoc]
       rw [← e4]
       exact h3.to
      ·refine w_bind (lss_f (by omega)) ?_
       with_reducible repeat refine gg ?_
       have e0 : Y.take E = [] := List.eq_nil_of_length_eq_zero (by omega)
       refine part1 H ?_
       rw [e0] at hh ⊢
       simpa only [pl, List.map_nil, List.nil_append, List.append_assoc] using hh
     ·refine w_bind (lss_f (by omega)) ?_
      with_reducible repeat refine gg ?_
      have e0 : X.drop S = [] := List.eq_nil_of_length_eq_zero (by omega)
      refine part1 H ?_
      rw [e0] at hh ⊢
      simpa only [pl, List.map_nil, List.nil_append, List.append_assoc] using hh
    -- the search
    have bin : ∀ (lo hi : Nat), hi ≤ X.length → hi ≤ hf → hf - lo ≤ Y.length → (lo = 0 ∨ hf - lo = Y.length) → (hi = X.length ∨ hi = hf) →
      ∀ (d i j : Nat) (H : AH), j - i = d → lo ≤ i → i ≤ j → j ≤ hi →
      (LoP X Y hf i ∨ i = lo) →
      (HiP X Y hf j ∨ j = hi) →
      Holds (ts 7 Pt.cells s (A ++ (pl X ++ (pl Y ++ B))) * R) H →
      wp (sMg_k29 s (vi ((A.length : Nat) : Int)) (vi ((A.length + X.length : Nat) : Int)) (vi ((A.length + X.length + Y.length : Nat) : Int)) ordV (vi ((A.length + hf : Nat) : Int)) (vi (((A.length + hf : Nat) : Int) + ((A.length + X.length : Nat) : Int))) (vi ((A.length + i : Nat) : Int)) (vi ((A.length + j : Nat) : Int)) (vi (((A.length + hf : Nat) : Int) + ((A.length + X.length : Nat) : Int) - 1)) H)
       fun v' H' => ∃ Z : List TP, v' = .tuple #[] ∧ Holds (pu (Srt Z ∧ Z.Perm (X ++ Y)) * ts 7 Pt.cells s (A ++ (pl Z ++ B)) * R) H' := by
     intro lo hi hhiX hhif hloY hlo0 hhi0 d
     induction d using Nat.strongRecOn with
     | ind d ihd =>
      intro i j H hd hli hij hjh hlow hhigh hh
      refine wp_eq (sMg_k29_eq ..) ?_
      by_cases hlt : i < j
      ·refine w_bind (lss_t (by omega)) ?_
       with_reducible repeat refine gg ?_
       refine wp_eq (sMg_k30_eq ..) ?_
       refine w_mid rfl rfl (by omega) ?_
       rw [show (A.length + i + (A.length + j)) / 2 = A.length + (i + j) / 2 from by omega]
       refine w_bind (bin_sub_i (by omega) (by omega)) ?_
       have hcX : (i + j) / 2 < X.length := by omega
       have hcY : hf - 1 - (i + j) / 2 < Y.length := by omega
       refine w_tat (i := A.length + X.length + (hf - 1 - (i + j) / 2)) (by omega) hh (at_Y A B X Y hcY rfl) ?_
       refine w_tat (i := A.length + (i + j) / 2) rfl hh (at_X A B X Y hcX rfl) ?_
       refine w_ord hh fun H1 h1 => ?_
       by_cases hcmp : Y[hf - 1 - (i + j) / 2].2.step < X[(i + j) / 2].2.step
       ·refine w_bind (cmpP_lt hcmp) ?_
        with_reducible repeat refine gg ?_
        rw [Bool.not_true]
        with_reducible repeat refine gg ?_
        exact ihd ((i + j) / 2 - i) (by omega) i ((i + j) / 2) H1 rfl hli (by omega) (by omega) hlow (.inl ⟨hcX, hcY, by omega, hcmp⟩) h1
       ·refine w_bind (cmpP_ge hcmp) ?_
        with_reducible repeat refine gg ?_
        rw [Bool.not_false]
        with_reducible repeat refine gg ?_
        refine w_bind (bin_add_i (by omega) (by omega)) ?_
        rw [show ((A.length + (i + j) / 2 : Nat) : Int) + 1 = ((A.length + ((i + j) / 2 + 1) : Nat) : Int) from by omega]
        exact ihd (j - ((i + j) / 2 + 1)) (by omega) ((i + j) / 2 + 1) j H1 rfl (by omega) (by omega) hjh (.inl ⟨(i + j) / 2, rfl, hcX, hcY, by omega⟩) hhigh h1
      ·refine w_bind (lss_f (by omega)) ?_
       with_reducible repeat refine gg ?_
       have e : j = i := by omega
       subst e
       refine wp_eq (sMg_e28_8_eq ..) ?_
       refine rest j H (by omega) (by omega) (by omega) ?_ ?_ hh
       ·rcases hlow with h1 | h1
        ·exact .inl h1
        ·rcases hlo0 with h2 | h2
         ·exact .inr (.inl (by omega))
         ·exact .inr (.inr (by rw [h1]; exact h2))
       ·rcases hhigh with h1 | h1
        ·exact .inl h1
        ·rcases hhi0 with h2 | h2
         ·exact .inr (.inl (by omega))
         ·exact .inr (.inr (by omega))
    by_cases hmid : hf < X.length
    ·refine w_bind (gtr_t (by omega)) ?_
     with_reducible repeat refine gg ?_
     refine w_bind (bin_sub_i (by omega) (by omega)) ?_
     refine wp_eq (sMg_k3_eq ..) ?_
     refine w_bind (bin_sub_i (by omega) (by omega)) ?_
     refine wp_eq (sMg_k4_eq ..) ?_
     rw [show ((A.length + hf : Nat) : Int) + ((A.length + X.length : Nat) : Int) - ((A.length + X.length + Y.length : Nat) : Int) = ((A.length + (hf - Y.length) : Nat) : Int) from by omega]
     exact bin (hf - Y.length) hf (by omega) (Nat.le_refl _) (by omega) (.inr (by omega)) (.inr rfl) _ (hf - Y.length) hf H rfl (Nat.le_refl _) (by omega) (Nat.le_refl _) (.inr rfl) (.inr rfl) h
    ·refine w_bind (gtr_f (by omega)) ?_
     with_reducible repeat refine gg ?_
     refine wp_eq (sMg_k3_eq ..) ?_
     refine w_bind (bin_sub_i (by omega) (by omega)) ?_
     refine wp_eq (sMg_k4_eq ..) ?_
     have := bin 0 X.length (Nat.le_refl _) (by omega) (by omega) (.inl rfl) (.inl rfl) _ 0 X.length H rfl (Nat.le_refl _) (by omega) (Nat.le_refl _) (.inr rfl) (.inr rfl) h
     rw [Nat.add_zero] at this
     exact this
theorem merge_round (s : Value) (bs : Nat) (h0 : 1 ≤ bs) {R : SP} (T : Nat) (hT : T < 1000000) (hbs : bs < 1000000) {Q : Value → AH → Prop} :
  ∀ (N : Nat) (L D : List TP) (H : AH), L.length ≤ N → D.length + L.length = T → Chk bs L → Holds (ts 7 Pt.cells s (pl D ++ pl L) * R) H →
  (∀ (Z : List TP) (H : AH), Z.Perm L → Chk (2 * bs) Z → Holds (ts 7 Pt.cells s (pl D ++ pl Z) * R) H → wp (sSt_k9 s (vi (T : Int)) ordV (vi (bs : Int)) H) Q) →
  wp (sSt_k15 s (vi (T : Int)) ordV (vi (bs : Int)) (vi (D.length : Int)) (vi (((D.length + 2 * bs : Nat)) : Int)) H) Q := by
 intro N
 induction N using Nat.strongRecOn with
 | ind N ih =>
  intro L D H hN hDL hC hh hk
  refine wp_eq (sSt_k15_eq ..) ?_
  by_cases hle : 2 * bs ≤ L.length
  ·refine w_bind (leq_t (by omega)) ?_
   with_reducible repeat refine gg ?_
   obtain ⟨X, L2, rfl, hXl, hXs, hXB, hC2⟩ := hC.split (by omega)
   rw [List.length_append] at hle hN hDL
   obtain ⟨Y, L3, rfl, hYl, hYs, hYB, hC3⟩ := hC2.split (by omega)
   rw [List.length_append] at hle hN hDL
   have hB := Bel.append_right.1 hXB
   refine wp_eq (sSt_k16_eq ..) ?_
   refine w_bind (bin_add_i (by omega) (by omega)) ?_
   have m := sym_merge s _ (pl D) (pl L3) X Y (Nat.le_refl _) (by omega) (by omega) hXs hYs hB.1 (by rw [pl_len]; omega)
   rw [pl_len, hXl, hYl] at m
   rw [show ((D.length : Nat) : Int) + ((bs : Nat) : Int) = ((D.length + bs : Nat) : Int) from by omega, show D.length + 2 * bs = D.length + bs + bs from by omega]
   have e1 : pl D ++ pl (X ++ (Y ++ L3)) = pl D ++ (pl X ++ (pl Y ++ pl L3)) := by rw [pl_app, pl_app]
   rw [e1] at hh
   refine w_call hh m fun Z H1 h1 => ?_
   rw [sep_assoc, Holds.pu] at h1
   obtain ⟨⟨hZs, hZp⟩, h1⟩ := h1
   have hZl := hZp.length_eq
   rw [List.length_append] at hZl
   refine w_bind (bin_mul_i (by omega) (by omega)) ?_
   refine w_bind (bin_add_i (by omega) (by omega)) ?_
   have := ih L3.length (by omega) L3 (D ++ Z) H1 (Nat.le_refl _) (by rw [List.length_append]; omega) hC3 (by
    rw [pl_app, List.append_assoc]; exact h1.to) (fun Z2 H2 hp2 hc2 h2 => by
    refine hk (Z ++ Z2) H2 ?_ (.cons (by omega) hZs ?_ hc2) ?_
    ·rw [← List.append_assoc]
     exact hZp.append hp2
    ·have hb3 : Bel (X ++ Y) L3 := fun x hx y hy => (List.mem_append.1 hx).elim (fun q => hB.2 x q y hy) (fun q => hYB x q y hy)
     exact hb3.perm hZp hp2
    ·rw [pl_app, ← List.append_assoc, ← pl_app D Z]
     exact h2)
   rw [List.length_append, hZl, hXl, hYl] at this
   rw [show ((D.length + bs + bs : Nat) : Int) + 2 * ((bs : Nat) : Int) = ((D.length + (bs + bs) + 2 * bs : Nat) : Int) from by omega, show D.length + bs + bs = D.length + (bs + bs) from by omega]
   exact this
  ·refine w_bind (leq_f (by omega)) ?_
   with_reducible repeat refine gg ?_
   refine wp_eq (sSt_e14_4_eq ..) ?_
   refine wp_eq (sSt_k8_eq ..) ?_
   refine w_bind (bin_add_i (by omega) (by omega)) ?_
   by_cases hlt : bs < L.length
   ·refine w_bind (lss_t (by omega)) ?_
    with_reducible repeat refine gg ?_
    obtain ⟨X, Y, rfl, hXl, hXs, hXB, hC2⟩ := hC.split (by omega)
    rw [List.length_append] at hle hN hDL hlt
    have m := sym_merge s _ (pl D) [] X Y (Nat.le_refl _) (by omega) (by omega) hXs (hC2.short (by omega)) hXB (by rw [pl_len]; omega)
    rw [pl_len, hXl, List.append_nil, show D.length + bs + Y.length = T from by omega] at m
    rw [show ((D.length : Nat) : Int) + ((bs : Nat) : Int) = ((D.length + bs : Nat) : Int) from by omega]
    have e1 : pl D ++ pl (X ++ Y) = pl D ++ (pl X ++ pl Y) := by rw [pl_app]
    rw [e1] at hh
    refine w_call hh m fun Z H1 h1 => ?_
    rw [sep_assoc, Holds.pu] at h1
    obtain ⟨⟨hZs, hZp⟩, h1⟩ := h1
    have hZl := hZp.length_eq
    rw [List.length_append] at hZl
    rw [List.append_nil] at h1
    exact hk Z H1 hZp (.last (by omega) hZs) h1.to
   ·refine w_bind (lss_f (by omega)) ?_
    with_reducible repeat refine gg ?_
    exact hk L H (List.Perm.refl _) (.last (by omega) (hC.short (by omega))) hh
theorem merge_all (s : Value) {R : SP} (L0 : List TP) (hT : L0.length < 400000) : ∀ (N : Nat) (bs : Nat) (L : List TP) (H : AH), 1 ≤ bs → bs < 1000000 → L0.length - bs ≤ N → L.Perm L0 → Chk bs L → Holds (ts 7 Pt.cells s (pl L) * R) H →
  wp (sSt_k4 s (vi (L0.length : Int)) ordV (vi (bs : Int)) H) fun v' H' => ∃ Z : List TP, v' = .tuple #[] ∧ Holds (pu (Srt Z ∧ Z.Perm L0) * ts 7 Pt.cells s (pl Z) * R) H' := by
 intro N
 induction N using Nat.strongRecOn with
 | ind N ih =>
  intro bs L H h0 hbs hN hp hC hh
  have hl := hp.length_eq
  refine wp_eq (sSt_k4_eq ..) ?_
  by_cases hlt : bs < L0.length
  ·refine w_bind (lss_t (by omega)) ?_
   with_reducible repeat refine gg ?_
   refine wp_eq (sSt_k5_eq ..) ?_
   refine w_bind (bin_mul_i (by omega) (by omega)) ?_
   refine wp_eq (sSt_k7_eq ..) ?_
   have := merge_round s bs h0 (R := R) L0.length (by omega) hbs (Q := fun v' H' => ∃ Z : List TP, v' = .tuple #[] ∧ Holds (pu (Srt Z ∧ Z.Perm L0) * ts 7 Pt.cells s (pl Z) * R) H') L.length L [] H (Nat.le_refl _) (by simpa using hl) hC (by simpa using hh) (fun Z H1 hp1 hc1 h1 => by
    refine wp_eq (sSt_k9_eq ..) ?_
    refine w_bind (bin_mul_i (by omega) (by omega)) ?_
    rw [show ((bs : Nat) : Int) * 2 = ((2 * bs : Nat) : Int) from by omega]
    exact ih (L0.length - 2 * bs) (by omega) (2 * bs) Z H1 (by omega) (by omega) (Nat.le_refl _) (hp1.trans hp) hc1 (by simpa using h1))
   rw [List.length_nil, Nat.zero_add] at this
   rw [show 2 * ((bs : Nat) : Int) = ((2 * bs : Nat) : Int) from by omega]
   exact this
  ·refine w_bind (lss_f (by omega)) ?_
   with_reducible repeat refine gg ?_
   refine wp_eq (sSt_e3_2_eq ..) ?_
   refine w_ret ⟨L, rfl, ?_⟩
   rw [sep_assoc, Holds.pu]
   exact ⟨⟨hC.short (by omega), hp⟩, hh⟩
theorem blocks (s : Value) (T : Nat) (hT : T < 400000) {R : SP} {Q : Value → AH → Prop} : ∀ (N : Nat) (L D : List TP) (H : AH), L.length ≤ N → D.length + L.length = T → Asc L → Holds (ts 7 Pt.cells s (pl D ++ pl L) * R) H →
  (∀ (Z : List TP) (H : AH), Z.Perm L → Chk 20 Z → Holds (ts 7 Pt.cells s (pl D ++ pl Z) * R) H → wp (sSt_k2 s (vi (T : Int)) ordV (vi 20) H) Q) →
  wp (sSt_k27 s (vi (T : Int)) ordV (vi 20) (vi (D.length : Int)) (vi ((D.length + 20 : Nat) : Int)) H) Q := by
 intro N
 induction N using Nat.strongRecOn with
 | ind N ih =>
  intro L D H hN hDL hA hh hk
  refine wp_eq (sSt_k27_eq ..) ?_
  by_cases hle : 20 ≤ L.length
  ·refine w_bind (leq_t (by omega)) ?_
   with_reducible repeat refine gg ?_
   refine wp_eq (sSt_k28_eq ..) ?_
   have eL : L.take 20 ++ L.drop 20 = L := List.take_append_drop ..
   have l1 : (L.take 20).length = 20 := by rw [List.length_take]; omega
   have l2 : (L.drop 20).length = L.length - 20 := List.length_drop
   obtain ⟨a1, a2, a3⟩ := asc_append.1 (by rw [eL]; exact hA : Asc (L.take 20 ++ L.drop 20))
   have m := insertion (pl D) (pl (L.drop 20)) s (L.take 20) a1 (by rw [pl_len]; omega)
   rw [pl_len, l1] at m
   have e1 : pl D ++ pl L = pl D ++ (pl (L.take 20) ++ pl (L.drop 20)) := by rw [← pl_app (L.take 20), eL]
   rw [e1] at hh
   refine w_call hh m fun Z H1 h1 => ?_
   rw [sep_assoc, Holds.pu] at h1
   obtain ⟨⟨hZs, hZp⟩, h1⟩ := h1
   have hZl := hZp.length_eq
   refine w_bind (bin_add_i (by omega) (by omega)) ?_
   have := ih (L.drop 20).length (by omega) (L.drop 20) (D ++ Z) H1 (Nat.le_refl _) (by rw [List.length_append]; omega) a2 (by
    rw [pl_app, List.append_assoc]; exact h1.to) (fun Z2 H2 hp2 hc2 h2 => by
    refine hk (Z ++ Z2) H2 ?_ (.cons (by omega) hZs (a3.perm hZp hp2) hc2) ?_
    ·have := hZp.append hp2
     rw [eL] at this
     exact this
    ·rw [pl_app, ← List.append_assoc, ← pl_app D Z]
     exact h2)
   rw [List.length_append, hZl, l1] at this
   rw [show ((D.length + 20 : Nat) : Int) + 20 = ((D.length + 20 + 20 : Nat) : Int) from by omega]
   exact this
  ·refine w_bind (leq_f (by omega)) ?_
   with_reducible repeat refine gg ?_
   refine wp_eq (sSt_e26_0_eq ..) ?_
   refine wp_eq (sSt_k1_eq ..) ?_
   have m := insertion (pl D) [] s L hA (by rw [pl_len]; omega)
   rw [pl_len, hDL, List.append_nil] at m
   refine w_call hh m fun Z H1 h1 => ?_
   rw [sep_assoc, Holds.pu, List.append_nil] at h1
   obtain ⟨⟨hZs, hZp⟩, h1⟩ := h1
   have hZl := hZp.length_eq
   exact hk Z H1 hZp (.last (by omega) hZs) h1.to
theorem sort_law (s : Value) (l : List Pt) (hl : l.length < 400000) : Sp n_sSo [s, ordV] (ts 7 Pt.cells s l) (fun _ : Unit => .tuple #[]) (fun _ => ts 7 Pt.cells s (byStep l)) := by
 have stable : Sp n_sSt [s, vi l.length, ordV] (ts 7 Pt.cells s l) (fun _ : List TP => .tuple #[]) (fun Z => pu (Srt Z ∧ Z.Perm (numb 0 l)) * ts 7 Pt.cells s (pl Z)) := by
  refine sp_of fun R H h => ?_
  refine wp_of (fun r => sSt_of _ _ _ H) ?_
  refine wp_eq (sSt_k0_eq ..) ?_
  have ln : (numb 0 l).length = l.length := by rw [← pl_len, numb_pl]
  have := blocks s l.length hl (R := R) (Q := fun v' H' => ∃ Z : List TP, v' = .tuple #[] ∧ Holds (pu (Srt Z ∧ Z.Perm (numb 0 l)) * ts 7 Pt.cells s (pl Z) * R) H') l.length (numb 0 l) [] H (by omega) (by simpa using ln) (numb_asc l 0) (by
   rw [numb_pl]; simpa using h) (fun Z H1 hp hc h1 => by
   refine wp_eq (sSt_k2_eq ..) ?_
   have := merge_all s (R := R) (numb 0 l) (by omega) _ 20 Z H1 (by omega) (by omega) (Nat.le_refl _) hp hc (by simpa using h1)
   rw [ln] at this
   exact this)
  exact this
 refine sp_of fun R H h => ?_
 refine wp_of (fun r => sSo_of _ _ H) ?_
 refine w_tlen (s := s) (l := l) h ?_
 refine w_call h stable fun Z H1 h1 => ?_
 rw [sep_assoc, Holds.pu] at h1
 obtain ⟨⟨hZs, hZp⟩, h1⟩ := h1
 rw [byStep_of hZs hZp] at h1
 exact w_ret ⟨(), rfl, h1.to⟩
theorem points_law (p : Nat) (rp : List Nat) (σ : Sta) (hl : σ.pts.length < 400000) : Sp n_pPP [vp p] (partsR p rp σ) (fun v : Value => v) (fun v => ts 7 Pt.cells v (byStep σ.pts) * partsR p rp σ) := by
 have hbl := byStep_len σ.pts
 refine sp_of fun R H h => ?_
 obtain ⟨g, hrp, hg, h0⟩ := partsR_open h
 unfold partsB at h0
 refine wp_of (fun r => pPP_of _ H) ?_
 refine w_ld h0 end_nf rfl ?_
 refine w_call h0 (slices_clone_pts g.pv σ.pts (by omega)) fun v H1 h1 => ?_
 refine w_call h1 (sort_law v σ.pts hl) fun _ H2 h2 => ?_
 refine wp_eq (pPP_k0_eq _ _ _ H2) ?_
 refine w_tlen (s := v) (l := byStep σ.pts) h2 ?_
 refine wp_eq (pPP_k2_eq _ _ _ _ _ H2) ?_
 have h3 : Holds (partsR p rp σ * (ts 7 Pt.cells v (byStep σ.pts) * R)) H2 := by
  refine partsR_close g hrp hg ?_
  unfold partsB
  exact h2.to
 have h4 := ts_nil 7 Pt.cells h3
 have h5 : Holds (ts 7 Pt.cells (.slice none 0 0) ((byStep σ.pts).take 0) * (ts 7 Pt.cells v (byStep σ.pts) * partsR p rp σ) * R) H2 := by rw [List.take_zero]; exact h4.to
 refine wp_imp ?_ (points_loop (.slice none 0 0) v (byStep σ.pts) (by omega) (byStep σ.pts).length 0 (.slice none 0 0) H2 (by omega) h5)
 rintro v' H' ⟨o, rfl, h6⟩
 exact ⟨_, rfl, h6.to⟩
theorem rvOk_lt {rp : List Nat} {t : Tk} {v : Value} (h : t.at' < 7) : rvOk rp t v := fun h' => by omega
theorem rvOk_at {rp : List Nat} {t : Tk} {b : Nat} (h : rp[t.obj]? = some b) : rvOk rp t (vp b) := fun _ => ⟨b, h, rfl⟩
section
variable {e p : Nat} {rp : List Nat} {g : PIds} {σ σ' : Sta} {t t' : Tk} {R P : SP} {H : AH} {r : Sta × Tk × Bool} {v : Value} {n : Nat} {c : Int}
theorem eP_all (h : Holds (eP e p rp σ t * R) H) : ∃ (nx rv : Value) (g : PIds), rvOk rp t rv ∧ g.rp = rp ∧ rp.length = σ.obs.length ∧ nx = fnV e (nfOf t.at') ∧ Holds (eB e p nx rv t * (partsB p g σ * R)) H := by
 obtain ⟨rv, h1, h2⟩ := eP_open h
 obtain ⟨g, h3, h4, h5⟩ := partsR_open (p := p) (rp := rp) (σ := σ) (R := eB e p (fnV e (nfOf t.at')) rv t * R) (H := H) h2.to
 exact ⟨_, rv, g, h1, h3, h4, rfl, h5.to⟩
theorem eQ_onR (hr : r = (σ', t', false)) (hv : rvOk rp t' v) (hn : nfOf t'.at' = n) (h : Holds (eB e p (fnV e n) v t' * (partsR p rp σ' * R)) H) :
  ∃ x : Unit, (.tuple #[.agg (retC 0).toArray, vb false]) = toldV r ∧ Holds (eQ e p rp r * R) H := by
 subst hr
 exact ⟨(), rfl, eP_close hv hn h⟩
theorem eQ_on (hr : r = (σ', t', false)) (hv : rvOk g.rp t' v) (hn : nfOf t'.at' = n) (hl : g.rp.length = σ'.obs.length) (h : Holds (eB e p (fnV e n) v t' * (partsB p g σ' * R)) H) :
  ∃ x : Unit, (.tuple #[.agg (retC 0).toArray, vb false]) = toldV r ∧ Holds (eQ e p g.rp r * R) H := by
 refine eQ_onR hr hv hn ?_
 have h1 := partsR_close (p := p) (rp := g.rp) (σ := σ') (R := eB e p (fnV e n) v t' * R) g rfl hl h.to
 exact h1.to
theorem eQ_end (hr : r = (σ', t', true)) (hc : t'.code = c) (h : Holds (partsR p rp σ' * R) H) :
  ∃ x : Unit, (.tuple #[.agg (retC c).toArray, vb true]) = toldV r ∧ Holds (eQ e p rp r * R) H := by
 subst hr
 subst hc
 exact ⟨(), rfl, h⟩
theorem w_on (nx rv : Value) (t' : Tk) (n : Nat) {b : Nat} {Q : Value → AH → Prop} (h : Holds P H) [fr : Fr P (eB e p nx rv t' * blk b (.cells false [vi 0, .slice none 0 0, vi 0, vw 0])) R]
  (hk : ∀ H', Holds (eB e p (fnV e n) rv t' * R) H' → Q (.tuple #[.agg (retC 0).toArray, vb false]) H') :
  wp ((FF n_eE_on [vp e, fnV e n] H).bind fun r2 => (pExtract r2.1 0).bind fun v3 => (pExtract r2.1 1).bind fun v4 => (pSt 4 (vp b) v3 r2.2).bind fun H5 => (pLdN 4 (vp b) H5).bind fun v6 => some (Value.tuple #[v6, v4], H5)) Q :=
 w_told h (enq_on e p nx rv n t') hk
end
section
variable (e p : Nat) (rp : List Nat) (σ : Sta) (t : Tk) (now : Int)
theorem step_lock (S : SOk σ) (T : TOk σ t) (hat : t.at' = 3) : Sp n_eE_lock [vp e, vi now] (eP e p rp σ t) (fun _ : Unit => toldV (stepE σ t now)) (fun _ => eQ e p rp (stepE σ t now)) := by
 have hN : σ.μ.N < 1099511627000 := by have := S.N; omega
 refine sp_of fun R H h => ?_
 obtain ⟨nx, rv, g, hv, rfl, hl, _, h0⟩ := eP_all h
 refine wp_of (fun r => eE_lock_of _ _ H) ?_
 refine w_new h0 fun b1 H1 h1 => ?_
 refine w_ld h1 end_nf rfl ?_
 refine w_ld h1 end_nf rfl ?_
 refine w_ld h1 end_nf rfl ?_
 refine w_ld h1 end_nf rfl ?_
 refine w_call h1 (B_tab (p := p) (g := g) (σ := σ) (table_lock g.tb g.m σ.c.sh.toNat σ.c.sl.toNat σ.μ t.who t.s hN)) fun _ H2 h2 => ?_
 by_cases hw : σ.μ.V (8, t.s, 0) = 0
 ·rw [decide_eq_true hw]
  with_reducible repeat refine gg ?_
  rw [Bool.not_true]
  with_reducible repeat refine gg ?_
  refine w_st h2 end_nf rfl rfl fun H3 h3 => ?_
  refine w_on (e := e) (p := p) nx rv { t with at' := 4, i := 0 } n_eE_search h3 fun H9 h9 => ?_
  exact eQ_on (σ' := σ.mem (σ.μ.swp t.who (8, t.s, 0) 0 1)) (t' := { t with at' := 4, i := 0 }) (v := rv) (n := n_eE_search) (by simp only [stepE, hat]; rw [if_pos hw]) (rvOk_lt (by simp)) rfl hl h9.to
 ·rw [decide_eq_false hw]
  with_reducible repeat refine gg ?_
  rw [Bool.not_false]
  with_reducible repeat refine gg ?_
  refine w_on (e := e) (p := p) nx rv t n_eE_lock h2 fun H9 h9 => ?_
  exact eQ_on (σ' := σ.mem (σ.μ.swp t.who (8, t.s, 0) 0 1)) (t' := t) (v := rv) (n := n_eE_lock) (by simp only [stepE, hat]; rw [if_neg hw]) (rvOk_lt (by omega)) (by rw [hat]; rfl) hl h9.to
theorem step_unlock (S : SOk σ) (T : TOk σ t) (hat : t.at' = 5) : Sp n_eE_unlock [vp e, vi now] (eP e p rp σ t) (fun _ : Unit => toldV (stepE σ t now)) (fun _ => eQ e p rp (stepE σ t now)) := by
 have hN : σ.μ.N < 1099511627000 := by have := S.N; omega
 refine sp_of fun R H h => ?_
 obtain ⟨nx, rv, g, hv, rfl, hl, _, h0⟩ := eP_all h
 refine wp_of (fun r => eE_unlock_of _ _ H) ?_
 refine w_new h0 fun b1 H1 h1 => ?_
 refine w_ld h1 end_nf rfl ?_
 refine w_ld h1 end_nf rfl ?_
 refine w_ld h1 end_nf rfl ?_
 refine w_ld h1 end_nf rfl ?_
 refine w_call h1 (B_tab (p := p) (g := g) (σ := σ) (table_unlock g.tb g.m σ.c.sh.toNat σ.c.sl.toNat σ.μ t.who t.s hN)) fun _ H2 h2 => ?_
 refine w_ld h2 end_nf rfl ?_
 cases hf : t.found
 ·with_reducible repeat refine gg ?_
  rw [Bool.not_false]
  with_reducible repeat refine gg ?_
  refine w_told h2 (enq_ends (vp e) 5) fun H9 h9 => ?_
  exact eQ_end (σ' := σ.mem ((σ.μ.acc t.who 2 (8, t.s, 0)).put (8, t.s, 0) 0)) (t' := { t with at' := 6 }) (by simp only [stepE, hat, hf]; rfl) (T.c5 hat hf) (partsR_close (p := p) (rp := g.rp) (R := R) g rfl hl h9.to)
 ·with_reducible repeat refine gg ?_
  rw [Bool.not_true]
  with_reducible repeat refine gg ?_
  refine w_on (e := e) (p := p) nx rv { t with at' := 6 } n_eE_look h2 fun H9 h9 => ?_
  exact eQ_on (σ' := σ.mem ((σ.μ.acc t.who 2 (8, t.s, 0)).put (8, t.s, 0) 0)) (t' := { t with at' := 6 }) (v := rv) (n := n_eE_look) (by simp only [stepE, hat, hf]; rfl) (rvOk_lt (by simp)) rfl hl h9.to
theorem step_look (S : SOk σ) (T : TOk σ t) (hat : t.at' = 6) : Sp n_eE_look [vp e, vi now] (eP e p rp σ t) (fun _ : Unit => toldV (stepE σ t now)) (fun _ => eQ e p rp (stepE σ t now)) := by
 have hN : σ.μ.N < 1099511627000 := by have := S.N; omega
 refine sp_of fun R H h => ?_
 obtain ⟨nx, rv, g, hv, rfl, hl, _, h0⟩ := eP_all h
 have ho := T.obj (.inl (by omega))
 obtain ⟨b, hb⟩ : ∃ b, g.rp[t.obj]? = some b := ⟨_, List.getElem?_eq_getElem (by omega)⟩
 refine wp_of (fun r => eE_look_of _ _ H) ?_
 refine w_new h0 fun b1 H1 h1 => ?_
 refine w_ld h1 end_nf rfl ?_
 refine w_ld h1 end_nf rfl ?_
 refine w_ld h1 end_nf rfl ?_
 refine w_call h1 (parts_obj' p g σ hl t.who t.obj ho S.N) fun _ H2 h2 => ?_
 refine w_ld h2 end_nf rfl ?_
 refine w_ld h2 end_nf rfl ?_
 refine w_call h2 (parts_ring' p g (σ.mem (σ.μ.acc t.who 5 (13, (t.obj : Int), 0))) hl t.obj b ho hb) fun _ H3 h3 => ?_
 refine w_st h3 end_nf rfl rfl fun H4 h4 => ?_
 refine w_on (e := e) (p := p) nx (vp b) { t with at' := 7 } n_eE_word h4 fun H9 h9 => ?_
 exact eQ_on (σ' := σ.mem (σ.μ.acc t.who 5 (13, (t.obj : Int), 0))) (t' := { t with at' := 7 }) (v := (vp b)) (n := n_eE_word) (by simp only [stepE, hat]) (rvOk_at hb) rfl hl h9.to
theorem step_word (S : SOk σ) (T : TOk σ t) (hat : t.at' = 7) : Sp n_eE_word [vp e, vi now] (eP e p rp σ t) (fun _ : Unit => toldV (stepE σ t now)) (fun _ => eQ e p rp (stepE σ t now)) := by
 have hN : σ.μ.N < 1099511627000 := by have := S.N; omega
 refine sp_of fun R H h => ?_
 obtain ⟨nx, rv, g, hv, rfl, hl, _, h0⟩ := eP_all h
 obtain ⟨b, hb, rfl⟩ := hv (by omega)
 have ho := T.obj (.inl (by omega))
 refine wp_of (fun r => eE_word_of _ _ H) ?_
 refine w_new h0 fun b1 H1 h1 => ?_
 refine w_ld h1 end_nf rfl ?_
 refine w_ld h1 end_nf rfl ?_
 refine w_call h1 (B_ring0 (p := p) hl ho hb (ring_word g.m t.obj b (cellsOf' σ t.obj) σ.μ t.who hN)) fun _ H2 h2 => ?_
 refine w_st h2 end_nf rfl rfl fun H3 h3 => ?_
 refine w_ld h3 end_nf rfl ?_
 refine w_call h3 (word_state _ (S.V _)) fun _ H4 h4 => ?_
 by_cases hw : wState (σ.μ.V (11, (t.obj : Int), 0)) = 2
 ·refine w_bind (eql_t hw) ?_
  with_reducible repeat refine gg ?_
  refine w_on (e := e) (p := p) nx (vp b) { t with w := σ.μ.V (11, (t.obj : Int), 0), at' := 3 } n_eE_lock h4 fun H9 h9 => ?_
  exact eQ_on (σ' := wordM σ t) (t' := { t with w := σ.μ.V (11, (t.obj : Int), 0), at' := 3 }) (v := (vp b)) (n := n_eE_lock) (by simp only [stepE, hat]; rw [if_pos hw]) (rvOk_lt (by simp)) rfl hl h9.to
 ·refine w_bind (eql_f hw) ?_
  with_reducible repeat refine gg ?_
  refine w_on (e := e) (p := p) nx (vp b) { t with w := σ.μ.V (11, (t.obj : Int), 0), at' := 8 } n_eE_head h4 fun H9 h9 => ?_
  exact eQ_on (σ' := wordM σ t) (t' := { t with w := σ.μ.V (11, (t.obj : Int), 0), at' := 8 }) (v := (vp b)) (n := n_eE_head) (by simp only [stepE, hat]; rw [if_neg hw]) (rvOk_at hb) rfl hl h9.to
theorem step_wordAgain (S : SOk σ) (T : TOk σ t) (hat : t.at' = 16) : Sp n_eE_wordAgain [vp e, vi now] (eP e p rp σ t) (fun _ : Unit => toldV (stepE σ t now)) (fun _ => eQ e p rp (stepE σ t now)) := by
 have hN : σ.μ.N < 1099511627000 := by have := S.N; omega
 refine sp_of fun R H h => ?_
 obtain ⟨nx, rv, g, hv, rfl, hl, _, h0⟩ := eP_all h
 obtain ⟨b, hb, rfl⟩ := hv (by omega)
 have ho := T.obj (.inl (by omega))
 refine wp_of (fun r => eE_wordAgain_of _ _ H) ?_
 refine w_new h0 fun b1 H1 h1 => ?_
 refine w_ld h1 end_nf rfl ?_
 refine w_ld h1 end_nf rfl ?_
 refine w_call h1 (B_ring0 (p := p) hl ho hb (ring_word g.m t.obj b (cellsOf' σ t.obj) σ.μ t.who hN)) fun _ H2 h2 => ?_
 refine w_st h2 end_nf rfl rfl fun H3 h3 => ?_
 refine w_ld h3 end_nf rfl ?_
 refine w_call h3 (word_state _ (S.V _)) fun _ H4 h4 => ?_
 by_cases hw : wState (σ.μ.V (11, (t.obj : Int), 0)) = 2
 ·refine w_bind (eql_t hw) ?_
  with_reducible repeat refine gg ?_
  refine w_on (e := e) (p := p) nx (vp b) { t with w := σ.μ.V (11, (t.obj : Int), 0), at' := 3 } n_eE_lock h4 fun H9 h9 => ?_
  exact eQ_on (σ' := wordM σ t) (t' := { t with w := σ.μ.V (11, (t.obj : Int), 0), at' := 3 }) (v := (vp b)) (n := n_eE_lock) (by simp only [stepE, hat]; rw [if_pos hw]) (rvOk_lt (by simp)) rfl hl h9.to
 ·refine w_bind (eql_f hw) ?_
  with_reducible repeat refine gg ?_
  refine w_on (e := e) (p := p) nx (vp b) { t with w := σ.μ.V (11, (t.obj : Int), 0), at' := 17 } n_eE_headAgain h4 fun H9 h9 => ?_
  exact eQ_on (σ' := wordM σ t) (t' := { t with w := σ.μ.V (11, (t.obj : Int), 0), at' := 17 }) (v := (vp b)) (n := n_eE_headAgain) (by simp only [stepE, hat]; rw [if_neg hw]) (rvOk_at hb) rfl hl h9.to
theorem step_head (S : SOk σ) (T : TOk σ t) (hat : t.at' = 8) : Sp n_eE_head [vp e, vi now] (eP e p rp σ t) (fun _ : Unit => toldV (stepE σ t now)) (fun _ => eQ e p rp (stepE σ t now)) := by
 have hN : σ.μ.N < 1099511627000 := by have := S.N; omega
 refine sp_of fun R H h => ?_
 obtain ⟨nx, rv, g, hv, rfl, hl, _, h0⟩ := eP_all h
 obtain ⟨b, hb, rfl⟩ := hv (by omega)
 have ho := T.obj (.inl (by omega))
 refine wp_of (fun r => eE_head_of _ _ H) ?_
 refine w_new h0 fun b1 H1 h1 => ?_
 refine w_ld h1 end_nf rfl ?_
 refine w_ld h1 end_nf rfl ?_
 refine w_call h1 (B_ring0 (p := p) hl ho hb (ring_head g.m t.obj b (cellsOf' σ t.obj) σ.μ t.who hN)) fun _ H2 h2 => ?_
 refine wp_eq (eE_head_k0_eq _ _ _ _ H2) ?_
 refine w_ld h2 end_nf rfl ?_
 refine w_ld h2 end_nf rfl ?_
 refine w_call h2 (B_ring1 (p := p) (σ := headM σ t) hl ho hb (ring_full g.m t.obj b (cellsOf' σ t.obj) t.w (σ.μ.V (12, (t.obj : Int), 0)) T.w (S.cells _ ho).2)) fun _ H3 h3 => ?_
 cases hf : fullW t.w (σ.μ.V (12, (t.obj : Int), 0)) (cellsOf' σ t.obj).length
 ·with_reducible repeat refine gg ?_
  refine w_ld h3 end_nf rfl ?_
  refine w_call h3 (word_state _ T.w) fun _ H4 h4 => ?_
  by_cases hw : wState t.w = 1
  ·refine w_bind (eql_t hw) ?_
   with_reducible repeat refine gg ?_
   refine w_on (e := e) (p := p) nx (vp b) { t with at' := 9 } n_eE_claim h4 fun H9 h9 => ?_
   exact eQ_on (σ' := headM σ t) (t' := { t with at' := 9 }) (v := (vp b)) (n := n_eE_claim) (by simp only [stepE, hat, fullT, hf]; rw [if_pos hw]; rfl) (rvOk_at hb) rfl hl h9.to
  ·refine w_bind (eql_f hw) ?_
   with_reducible repeat refine gg ?_
   refine wp_eq (eE_head_k1_eq _ _ _ H4) ?_
   refine w_on (e := e) (p := p) nx (vp b) { t with at' := 12 } n_eE_begin h4 fun H9 h9 => ?_
   exact eQ_on (σ' := headM σ t) (t' := { t with at' := 12 }) (v := (vp b)) (n := n_eE_begin) (by simp only [stepE, hat, fullT, hf]; rw [if_neg hw]; rfl) (rvOk_at hb) rfl hl h9.to
 ·with_reducible repeat refine gg ?_
  refine w_on (e := e) (p := p) nx (vp b) { t with at' := 15 } n_eE_seq h3 fun H9 h9 => ?_
  exact eQ_on (σ' := headM σ t) (t' := { t with at' := 15 }) (v := (vp b)) (n := n_eE_seq) (by simp only [stepE, hat, fullT, hf]; rfl) (rvOk_at hb) rfl hl h9.to
theorem step_claim (S : SOk σ) (T : TOk σ t) (hat : t.at' = 9) : Sp n_eE_claim [vp e, vi now] (eP e p rp σ t) (fun _ : Unit => toldV (stepE σ t now)) (fun _ => eQ e p rp (stepE σ t now)) := by
 have hN : σ.μ.N < 1099511627000 := by have := S.N; omega
 refine sp_of fun R H h => ?_
 obtain ⟨nx, rv, g, hv, rfl, hl, _, h0⟩ := eP_all h
 obtain ⟨b, hb, rfl⟩ := hv (by omega)
 have ho := T.obj (.inl (by omega))
 refine wp_of (fun r => eE_claim_of _ _ H) ?_
 refine w_new h0 fun b1 H1 h1 => ?_
 refine w_ld h1 end_nf rfl ?_
 refine w_ld h1 end_nf rfl ?_
 refine w_ld h1 end_nf rfl ?_
 refine w_call h1 (B_ring0 (p := p) hl ho hb (ring_claim g.m t.obj b (cellsOf' σ t.obj) σ.μ t.who t.w T.w hN)) fun _ H2 h2 => ?_
 cases hw : turned σ.μ t.obj t.w (wTurn t.w 0)
 ·with_reducible repeat refine gg ?_
  rw [Bool.not_false]
  with_reducible repeat refine gg ?_
  refine w_on (e := e) (p := p) nx (vp b) { t with at' := 7 } n_eE_word h2 fun H9 h9 => ?_
  exact eQ_on (σ' := σ.mem (σ.μ.turn t.who t.obj t.w (wTurn t.w 0))) (t' := { t with at' := 7 }) (v := (vp b)) (n := n_eE_word) (by simp only [stepE, hat, hw]; rfl) (rvOk_at hb) rfl hl h9.to
 ·with_reducible repeat refine gg ?_
  rw [Bool.not_true]
  with_reducible repeat refine gg ?_
  have k2 := partsR_close (p := p) (rp := g.rp) (σ := σ.mem (σ.μ.turn t.who t.obj t.w (wTurn t.w 0))) (R := eB e p nx (vp b) t * (blk b1 (.cells false [vi 0, .slice none 0 0, vi 0, vw 0]) * R)) g rfl hl h2.to
  refine w_call k2 (enq_note e p g.rp (σ.mem (σ.μ.turn t.who t.obj t.w (wTurn t.w 0))) nx (vp b) t now 0 (by have := S.pts; show σ.pts.length < _; omega)) fun _ H3 h3 => ?_
  refine w_on (e := e) (p := p) nx (vp b) { t with at' := 10, code := 0 } n_eE_put h3 fun H9 h9 => ?_
  exact eQ_onR (σ' := (σ.mem (σ.μ.turn t.who t.obj t.w (wTurn t.w 0))).note now t.who 0) (t' := { t with at' := 10, code := 0 }) (v := (vp b)) (n := n_eE_put) (by simp only [stepE, hat, hw]; rfl) (rvOk_at hb) rfl h9.to
theorem step_wake (S : SOk σ) (T : TOk σ t) (hat : t.at' = 13) : Sp n_eE_wake [vp e, vi now] (eP e p rp σ t) (fun _ : Unit => toldV (stepE σ t now)) (fun _ => eQ e p rp (stepE σ t now)) := by
 have hN : σ.μ.N < 1099511627000 := by have := S.N; omega
 refine sp_of fun R H h => ?_
 obtain ⟨nx, rv, g, hv, rfl, hl, _, h0⟩ := eP_all h
 obtain ⟨b, hb, rfl⟩ := hv (by omega)
 have ho := T.obj (.inl (by omega))
 refine wp_of (fun r => eE_wake_of _ _ H) ?_
 refine w_new h0 fun b1 H1 h1 => ?_
 refine w_ld h1 end_nf rfl ?_
 refine w_ld h1 end_nf rfl ?_
 refine w_ld h1 end_nf rfl ?_
 refine w_call h1 (B_ring0 (p := p) hl ho hb (ring_claim g.m t.obj b (cellsOf' σ t.obj) σ.μ t.who t.w T.w hN)) fun _ H2 h2 => ?_
 cases hw : turned σ.μ t.obj t.w (wTurn t.w 0)
 ·with_reducible repeat refine gg ?_
  rw [Bool.not_false]
  with_reducible repeat refine gg ?_
  refine w_on (e := e) (p := p) nx (vp b) { t with at' := 20 } n_eE_back h2 fun H9 h9 => ?_
  exact eQ_on (σ' := σ.mem (σ.μ.turn t.who t.obj t.w (wTurn t.w 0))) (t' := { t with at' := 20 }) (v := (vp b)) (n := n_eE_back) (by simp only [stepE, hat, hw]; rfl) (rvOk_at hb) rfl hl h9.to
 ·with_reducible repeat refine gg ?_
  rw [Bool.not_true]
  with_reducible repeat refine gg ?_
  have k2 := partsR_close (p := p) (rp := g.rp) (σ := σ.mem (σ.μ.turn t.who t.obj t.w (wTurn t.w 0))) (R := eB e p nx (vp b) t * (blk b1 (.cells false [vi 0, .slice none 0 0, vi 0, vw 0]) * R)) g rfl hl h2.to
  refine w_call k2 (enq_note e p g.rp (σ.mem (σ.μ.turn t.who t.obj t.w (wTurn t.w 0))) nx (vp b) t now 0 (by have := S.pts; show σ.pts.length < _; omega)) fun _ H3 h3 => ?_
  refine w_on (e := e) (p := p) nx (vp b) { t with at' := 14, code := 0 } n_eE_down h3 fun H9 h9 => ?_
  exact eQ_onR (σ' := (σ.mem (σ.μ.turn t.who t.obj t.w (wTurn t.w 0))).note now t.who 0) (t' := { t with at' := 14, code := 0 }) (v := (vp b)) (n := n_eE_down) (by simp only [stepE, hat, hw]; rfl) (rvOk_at hb) rfl h9.to
theorem layM_eq (σ : Sta) (t : Tk) : layM σ t = { σ with μ := σ.μ.acc t.who 6 (16, (t.obj : Int), ((wCount t.w % (cellsOf' σ t.obj).length : Nat) : Int)), obs := σ.obs.modify t.obj fun q => (q.1, (cellsOf' σ t.obj).set (wCount t.w % (cellsOf' σ t.obj).length) ⟨t.x.flow, t.x.a, t.x.b⟩) } := by
 have eo : (σ.obs.modify t.obj fun q => (q.1, q.2.set (wCount t.w % (cellsOf' σ t.obj).length) (⟨t.x.flow, t.x.a, t.x.b⟩ : Pk))) = σ.obs.modify t.obj fun q => (q.1, (cellsOf' σ t.obj).set (wCount t.w % (cellsOf' σ t.obj).length) ⟨t.x.flow, t.x.a, t.x.b⟩) := by
  apply List.ext_getElem?
  intro j
  rw [List.getElem?_modify, List.getElem?_modify]
  cases hj : σ.obs[j]? with
  | none => rfl
  | some q =>
   show some (if t.obj = j then _ else q) = some (if t.obj = j then _ else q)
   by_cases e : t.obj = j
   ·subst e
    rw [if_pos rfl, if_pos rfl]
    unfold cellsOf'
    rw [hj]; rfl
   ·rw [if_neg e, if_neg e]
 exact congrArg (fun o => ({ σ with μ := σ.μ.acc t.who 6 (16, (t.obj : Int), ((wCount t.w % (cellsOf' σ t.obj).length : Nat) : Int)), obs := o } : Sta)) eo
theorem enq_lay (S : SOk σ) (T : TOk σ t) (nx : Value) (g : PIds) (b : Nat) (hl : g.rp.length = σ.obs.length) (ho : t.obj < σ.obs.length) (hb : g.rp[t.obj]? = some b) :
  Sp n_eE_lay [vp e] (eB e p nx (vp b) t * partsB p g σ) (fun _ : Unit => .tuple #[]) (fun _ => eB e p nx (vp b) t * partsB p g (layM σ t)) := by
 have hN : σ.μ.N < 1099511627000 := by have := S.N; omega
 refine sp_of fun R H h => ?_
 refine wp_of (fun r => eE_lay_of _ H) ?_
 refine w_ad end_nf ?_
 refine w_Ld1 h rfl ?_
 refine w_ad end_nf ?_
 refine w_Ld1 h rfl ?_
 refine w_ld h end_nf rfl ?_
 refine w_call h (word_count t.w T.w) fun _ H1 h1 => ?_
 refine w_eq1 h1 h (by rfl) ?_
 refine w_eq1 h1 h (by rfl) ?_
 refine w_ad (end_n (end_f (end_f end_nil))) ?_
 refine w_Ld1 h1 rfl ?_
 refine w_eq1 h h1 (by rfl) ?_
 refine w_ad (end_n (end_f (end_f end_nil))) ?_
 refine w_Ld1 h1 rfl ?_
 refine w_eq1 h h1 (by rfl) ?_
 refine w_ad (end_n (end_f (end_f end_nil))) ?_
 refine w_Ld1 h1 rfl ?_
 refine w_eq1 h h1 (by rfl) ?_
 refine w_S ?_
 refine w_call h1 (B_ring (p := p) hl ho hb (ring_put g.m t.obj b (cellsOf' σ t.obj) σ.μ t.who (wCount t.w) ⟨t.x.flow, t.x.a, t.x.b⟩ (S.cells _ ho) hN)) fun _ H2 h2 => ?_
 refine w_ret ⟨(), rfl, ?_⟩
 rw [layM_eq]
 exact h2.to
theorem layM_len (σ : Sta) (t : Tk) : (layM σ t).obs.length = σ.obs.length := by unfold layM; simp
theorem step_put (S : SOk σ) (T : TOk σ t) (hat : t.at' = 10) : Sp n_eE_put [vp e, vi now] (eP e p rp σ t) (fun _ : Unit => toldV (stepE σ t now)) (fun _ => eQ e p rp (stepE σ t now)) := by
 have hN : σ.μ.N < 1099511627000 := by have := S.N; omega
 refine sp_of fun R H h => ?_
 obtain ⟨nx, rv, g, hv, rfl, hl, _, h0⟩ := eP_all h
 obtain ⟨b, hb, rfl⟩ := hv (by omega)
 have ho := T.obj (.inl (by omega))
 refine wp_of (fun r => eE_put_of _ _ H) ?_
 refine w_new h0 fun b1 H1 h1 => ?_
 refine w_call h1 (enq_lay e p σ t S T nx g b hl ho hb) fun _ H2 h2 => ?_
 refine w_on (e := e) (p := p) nx (vp b) { t with at' := 11 } n_eE_show h2 fun H9 h9 => ?_
 exact eQ_on (σ' := layM σ t) (t' := { t with at' := 11 }) (v := (vp b)) (n := n_eE_show) (by simp only [stepE, hat]) (rvOk_at hb) rfl (by rw [layM_len]; exact hl) h9.to
theorem step_down (S : SOk σ) (T : TOk σ t) (hat : t.at' = 14) : Sp n_eE_down [vp e, vi now] (eP e p rp σ t) (fun _ : Unit => toldV (stepE σ t now)) (fun _ => eQ e p rp (stepE σ t now)) := by
 have hN : σ.μ.N < 1099511627000 := by have := S.N; omega
 refine sp_of fun R H h => ?_
 obtain ⟨nx, rv, g, hv, rfl, hl, _, h0⟩ := eP_all h
 obtain ⟨b, hb, rfl⟩ := hv (by omega)
 have ho := T.obj (.inl (by omega))
 refine wp_of (fun r => eE_down_of _ _ H) ?_
 refine w_new h0 fun b1 H1 h1 => ?_
 refine w_call h1 (enq_lay e p σ t S T nx g b hl ho hb) fun _ H2 h2 => ?_
 refine w_on (e := e) (p := p) nx (vp b) { t with at' := 21 } n_eE_shown h2 fun H9 h9 => ?_
 exact eQ_on (σ' := layM σ t) (t' := { t with at' := 21 }) (v := (vp b)) (n := n_eE_shown) (by simp only [stepE, hat]) (rvOk_at hb) rfl (by rw [layM_len]; exact hl) h9.to
theorem step_show (S : SOk σ) (T : TOk σ t) (hat : t.at' = 11) : Sp n_eE_show [vp e, vi now] (eP e p rp σ t) (fun _ : Unit => toldV (stepE σ t now)) (fun _ => eQ e p rp (stepE σ t now)) := by
 have hN : σ.μ.N < 1099511627000 := by have := S.N; omega
 refine sp_of fun R H h => ?_
 obtain ⟨nx, rv, g, hv, rfl, hl, _, h0⟩ := eP_all h
 obtain ⟨b, hb, rfl⟩ := hv (by omega)
 have ho := T.obj (.inl (by omega))
 refine wp_of (fun r => eE_show_of _ _ H) ?_
 refine w_new h0 fun b1 H1 h1 => ?_
 refine w_ad end_nf ?_
 refine w_Ld1 h1 rfl ?_
 refine w_ad end_nf ?_
 refine w_Ld1 h1 rfl ?_
 refine w_ld h1 end_nf rfl ?_
 refine w_call h1 (word_count t.w T.w) fun _ H2 h2 => ?_
 refine w_eq1 h2 h1 (by rfl) ?_
 refine w_eq1 h2 h1 (by rfl) ?_
 have hwc := wCount_le t.w
 refine w_call h2 (B_ring0 (p := p) hl ho hb (ring_show g.m t.obj b (cellsOf' σ t.obj) σ.μ t.who (wCount t.w) (by omega) (S.cells _ ho) hN)) fun _ H3 h3 => ?_
 refine w_told h3 (enq_ends (vp e) 0) fun H9 h9 => ?_
 exact eQ_end (σ' := showM σ t) (t' := t) (by simp only [stepE, hat]) (T.c0 (by omega)) (partsR_close (p := p) (rp := g.rp) (R := R) g rfl hl h9.to)
theorem step_shown (S : SOk σ) (T : TOk σ t) (hat : t.at' = 21) : Sp n_eE_shown [vp e, vi now] (eP e p rp σ t) (fun _ : Unit => toldV (stepE σ t now)) (fun _ => eQ e p rp (stepE σ t now)) := by
 have hN : σ.μ.N < 1099511627000 := by have := S.N; omega
 refine sp_of fun R H h => ?_
 obtain ⟨nx, rv, g, hv, rfl, hl, _, h0⟩ := eP_all h
 obtain ⟨b, hb, rfl⟩ := hv (by omega)
 have ho := T.obj (.inl (by omega))
 refine wp_of (fun r => eE_shown_of _ _ H) ?_
 refine w_new h0 fun b1 H1 h1 => ?_
 refine w_ad end_nf ?_
 refine w_Ld1 h1 rfl ?_
 refine w_ad end_nf ?_
 refine w_Ld1 h1 rfl ?_
 refine w_ld h1 end_nf rfl ?_
 refine w_call h1 (word_count t.w T.w) fun _ H2 h2 => ?_
 refine w_eq1 h2 h1 (by rfl) ?_
 refine w_eq1 h2 h1 (by rfl) ?_
 have hwc := wCount_le t.w
 refine w_call h2 (B_ring0 (p := p) hl ho hb (ring_show g.m t.obj b (cellsOf' σ t.obj) σ.μ t.who (wCount t.w) (by omega) (S.cells _ ho) hN)) fun _ H3 h3 => ?_
 refine w_on (e := e) (p := p) nx (vp b) { t with at' := 22 } n_eE_topmost h3 fun H9 h9 => ?_
 exact eQ_on (σ' := showM σ t) (t' := { t with at' := 22 }) (v := (vp b)) (n := n_eE_topmost) (by simp only [stepE, hat]) (rvOk_at hb) rfl hl h9.to
theorem step_begin (S : SOk σ) (T : TOk σ t) (hat : t.at' = 12) : Sp n_eE_begin [vp e, vi now] (eP e p rp σ t) (fun _ : Unit => toldV (stepE σ t now)) (fun _ => eQ e p rp (stepE σ t now)) := by
 have hN : σ.μ.N < 1099511627000 := by have := S.N; omega
 refine sp_of fun R H h => ?_
 obtain ⟨nx, rv, g, hv, rfl, hl, _, h0⟩ := eP_all h
 obtain ⟨b, hb, rfl⟩ := hv (by omega)
 have ho := T.obj (.inl (by omega))
 refine wp_of (fun r => eE_begin_of _ _ H) ?_
 refine w_new h0 fun b1 H1 h1 => ?_
 refine w_ld h1 end_nf rfl ?_
 refine w_ld h1 end_nf rfl ?_
 refine w_ld h1 end_nf rfl ?_
 refine w_call h1 (B_inb (p := p) (g := g) (σ := σ) (inbox_begin g.ib g.m g.nm σ.c σ.nx σ.μ t.who hN)) fun _ H2 h2 => ?_
 refine w_on (e := e) (p := p) nx (vp b) { t with at' := 13 } n_eE_wake h2 fun H9 h9 => ?_
 exact eQ_on (σ' := σ.mem (σ.μ.cnt t.who (3, 0, 0) 4294967296)) (t' := { t with at' := 13 }) (v := (vp b)) (n := n_eE_wake) (by simp only [stepE, hat]) (rvOk_at hb) rfl hl h9.to
theorem step_back (S : SOk σ) (T : TOk σ t) (hat : t.at' = 20) : Sp n_eE_back [vp e, vi now] (eP e p rp σ t) (fun _ : Unit => toldV (stepE σ t now)) (fun _ => eQ e p rp (stepE σ t now)) := by
 have hN : σ.μ.N < 1099511627000 := by have := S.N; omega
 refine sp_of fun R H h => ?_
 obtain ⟨nx, rv, g, hv, rfl, hl, _, h0⟩ := eP_all h
 obtain ⟨b, hb, rfl⟩ := hv (by omega)
 have ho := T.obj (.inl (by omega))
 refine wp_of (fun r => eE_back_of _ _ H) ?_
 refine w_new h0 fun b1 H1 h1 => ?_
 refine w_ld h1 end_nf rfl ?_
 refine w_ld h1 end_nf rfl ?_
 refine w_ld h1 end_nf rfl ?_
 refine w_call h1 (B_inb (p := p) (g := g) (σ := σ) (inbox_end g.ib g.m g.nm σ.c σ.nx σ.μ t.who hN)) fun _ H2 h2 => ?_
 refine w_on (e := e) (p := p) nx (vp b) { t with at' := 7 } n_eE_word h2 fun H9 h9 => ?_
 exact eQ_on (σ' := σ.mem (σ.μ.cnt t.who (3, 0, 0) 1)) (t' := { t with at' := 7 }) (v := (vp b)) (n := n_eE_word) (by simp only [stepE, hat]) (rvOk_at hb) rfl hl h9.to
theorem step_end (S : SOk σ) (T : TOk σ t) (hat : t.at' = 25) : Sp n_eE_end [vp e, vi now] (eP e p rp σ t) (fun _ : Unit => toldV (stepE σ t now)) (fun _ => eQ e p rp (stepE σ t now)) := by
 have hN : σ.μ.N < 1099511627000 := by have := S.N; omega
 refine sp_of fun R H h => ?_
 obtain ⟨nx, rv, g, hv, rfl, hl, _, h0⟩ := eP_all h
 obtain ⟨b, hb, rfl⟩ := hv (by omega)
 have ho := T.obj (.inl (by omega))
 refine wp_of (fun r => eE_end_of _ _ H) ?_
 refine w_new h0 fun b1 H1 h1 => ?_
 refine w_ld h1 end_nf rfl ?_
 refine w_ld h1 end_nf rfl ?_
 refine w_ld h1 end_nf rfl ?_
 refine w_call h1 (B_inb (p := p) (g := g) (σ := σ) (inbox_end g.ib g.m g.nm σ.c σ.nx σ.μ t.who hN)) fun _ H2 h2 => ?_
 refine w_told h2 (enq_ends (vp e) 0) fun H9 h9 => ?_
 exact eQ_end (σ' := σ.mem (σ.μ.cnt t.who (3, 0, 0) 1)) (t' := t) (by simp only [stepE, hat]) (T.c0 (by omega)) (partsR_close (p := p) (rp := g.rp) (R := R) g rfl hl h9.to)
theorem step_topmost (S : SOk σ) (T : TOk σ t) (hat : t.at' = 22) : Sp n_eE_topmost [vp e, vi now] (eP e p rp σ t) (fun _ : Unit => toldV (stepE σ t now)) (fun _ => eQ e p rp (stepE σ t now)) := by
 have hN : σ.μ.N < 1099511627000 := by have := S.N; omega
 refine sp_of fun R H h => ?_
 obtain ⟨nx, rv, g, hv, rfl, hl, _, h0⟩ := eP_all h
 obtain ⟨b, hb, rfl⟩ := hv (by omega)
 have ho := T.obj (.inl (by omega))
 refine wp_of (fun r => eE_topmost_of _ _ H) ?_
 refine w_new h0 fun b1 H1 h1 => ?_
 refine w_ld h1 end_nf rfl ?_
 refine w_ld h1 end_nf rfl ?_
 refine w_ld h1 end_nf rfl ?_
 refine w_ld h1 end_nf rfl ?_
 refine w_call h1 (B_inb (p := p) (g := g) (σ := σ) (inbox_top g.ib g.m g.nm σ.c σ.nx σ.μ t.who t.s hN)) fun _ H2 h2 => ?_
 refine w_st h2 end_nf rfl rfl fun H3 h3 => ?_
 refine w_on (e := e) (p := p) nx (vp b) { t with top := σ.μ.V (9, t.s, 0), at' := 23 } n_eE_link h3 fun H9 h9 => ?_
 exact eQ_on (σ' := σ.mem (σ.μ.acc t.who 1 (9, t.s, 0))) (t' := { t with top := σ.μ.V (9, t.s, 0), at' := 23 }) (v := (vp b)) (n := n_eE_link) (by simp only [stepE, hat]) (rvOk_at hb) rfl hl h9.to
theorem step_link (S : SOk σ) (T : TOk σ t) (hat : t.at' = 23) : Sp n_eE_link [vp e, vi now] (eP e p rp σ t) (fun _ : Unit => toldV (stepE σ t now)) (fun _ => eQ e p rp (stepE σ t now)) := by
 have hN : σ.μ.N < 1099511627000 := by have := S.N; omega
 refine sp_of fun R H h => ?_
 obtain ⟨nx, rv, g, hv, rfl, hl, _, h0⟩ := eP_all h
 obtain ⟨b, hb, rfl⟩ := hv (by omega)
 have ho := T.obj (.inl (by omega))
 refine wp_of (fun r => eE_link_of _ _ H) ?_
 refine w_new h0 fun b1 H1 h1 => ?_
 refine w_ld h1 end_nf rfl ?_
 refine w_ld h1 end_nf rfl ?_
 refine w_ld h1 end_nf rfl ?_
 refine w_ld h1 end_nf rfl ?_
 refine w_ld h1 end_nf rfl ?_
 refine w_call h1 (B_inb (p := p) (g := g) (σ := σ) (inbox_link g.ib g.m g.nm σ.c σ.nx σ.μ t.who t.obj t.top hN)) fun _ H2 h2 => ?_
 refine w_on (e := e) (p := p) nx (vp b) { t with at' := 24 } n_eE_push h2 fun H9 h9 => ?_
 exact eQ_on (σ' := { σ with μ := σ.μ.acc t.who 6 (14, (t.obj : Int), 0), nx := fun k => if k = (t.obj : Int) then some t.top else σ.nx k }) (t' := { t with at' := 24 }) (v := (vp b)) (n := n_eE_push) (by simp only [stepE, hat]) (rvOk_at hb) rfl hl h9.to
theorem step_push (S : SOk σ) (T : TOk σ t) (hat : t.at' = 24) : Sp n_eE_push [vp e, vi now] (eP e p rp σ t) (fun _ : Unit => toldV (stepE σ t now)) (fun _ => eQ e p rp (stepE σ t now)) := by
 have hN : σ.μ.N < 1099511627000 := by have := S.N; omega
 refine sp_of fun R H h => ?_
 obtain ⟨nx, rv, g, hv, rfl, hl, _, h0⟩ := eP_all h
 obtain ⟨b, hb, rfl⟩ := hv (by omega)
 have ho := T.obj (.inl (by omega))
 refine wp_of (fun r => eE_push_of _ _ H) ?_
 refine w_new h0 fun b1 H1 h1 => ?_
 refine w_ld h1 end_nf rfl ?_
 refine w_ld h1 end_nf rfl ?_
 refine w_ld h1 end_nf rfl ?_
 refine w_ld h1 end_nf rfl ?_
 refine w_ld h1 end_nf rfl ?_
 refine w_ld h1 end_nf rfl ?_
 refine w_call h1 (B_inb (p := p) (g := g) (σ := σ) (inbox_push g.ib g.m g.nm σ.c σ.nx σ.μ t.who t.s t.top t.obj (by have := S.obs; omega) hN)) fun _ H2 h2 => ?_
 by_cases hw : σ.μ.V (9, t.s, 0) = t.top
 ·rw [decide_eq_true hw]
  with_reducible repeat refine gg ?_
  rw [Bool.not_true]
  with_reducible repeat refine gg ?_
  refine w_on (e := e) (p := p) nx (vp b) { t with at' := 25 } n_eE_end h2 fun H9 h9 => ?_
  exact eQ_on (σ' := σ.mem (σ.μ.swp t.who (9, t.s, 0) t.top (t.obj + 1))) (t' := { t with at' := 25 }) (v := (vp b)) (n := n_eE_end) (by simp only [stepE, hat]; rw [if_pos hw]) (rvOk_at hb) rfl hl h9.to
 ·rw [decide_eq_false hw]
  with_reducible repeat refine gg ?_
  rw [Bool.not_false]
  with_reducible repeat refine gg ?_
  refine w_on (e := e) (p := p) nx (vp b) { t with at' := 22 } n_eE_topmost h2 fun H9 h9 => ?_
  exact eQ_on (σ' := σ.mem (σ.μ.swp t.who (9, t.s, 0) t.top (t.obj + 1))) (t' := { t with at' := 22 }) (v := (vp b)) (n := n_eE_topmost) (by simp only [stepE, hat]; rw [if_neg hw]) (rvOk_at hb) rfl hl h9.to
theorem step_seq (S : SOk σ) (T : TOk σ t) (hat : t.at' = 15) : Sp n_eE_seq [vp e, vi now] (eP e p rp σ t) (fun _ : Unit => toldV (stepE σ t now)) (fun _ => eQ e p rp (stepE σ t now)) := by
 have hN : σ.μ.N < 1099511627000 := by have := S.N; omega
 refine sp_of fun R H h => ?_
 obtain ⟨nx, rv, g, hv, rfl, hl, _, h0⟩ := eP_all h
 obtain ⟨b, hb, rfl⟩ := hv (by omega)
 have ho := T.obj (.inl (by omega))
 refine wp_of (fun r => eE_seq_of _ _ H) ?_
 refine w_new h0 fun b1 H1 h1 => ?_
 refine w_ld h1 end_nf rfl ?_
 refine w_ld h1 end_nf rfl ?_
 refine w_call h1 (parts_seq' p g σ t.who S.N) fun _ H2 h2 => ?_
 refine w_st h2 end_nf rfl rfl fun H3 h3 => ?_
 refine w_ld h3 end_nf rfl ?_
 refine w_bind (rem_l 2 (by omega)) ?_
 by_cases hw : σ.μ.V (2, 0, 0) % 2 = 1
 ·refine w_bind (eql_t (show ((σ.μ.V (2, 0, 0) % 2 : Nat) : Int) = 1 by omega)) ?_
  with_reducible repeat refine gg ?_
  refine w_on (e := e) (p := p) nx (vp b) { t with q := σ.μ.V (2, 0, 0), at' := 7 } n_eE_word h3 fun H9 h9 => ?_
  exact eQ_on (σ' := seqM σ t) (t' := { t with q := σ.μ.V (2, 0, 0), at' := 7 }) (v := (vp b)) (n := n_eE_word) (by simp only [stepE, hat]; rw [if_pos hw]) (rvOk_at hb) rfl hl h9.to
 ·refine w_bind (eql_f (show ¬ ((σ.μ.V (2, 0, 0) % 2 : Nat) : Int) = 1 by omega)) ?_
  with_reducible repeat refine gg ?_
  refine w_on (e := e) (p := p) nx (vp b) { t with q := σ.μ.V (2, 0, 0), at' := 16 } n_eE_wordAgain h3 fun H9 h9 => ?_
  exact eQ_on (σ' := seqM σ t) (t' := { t with q := σ.μ.V (2, 0, 0), at' := 16 }) (v := (vp b)) (n := n_eE_wordAgain) (by simp only [stepE, hat]; rw [if_neg hw]) (rvOk_at hb) rfl hl h9.to
theorem step_headAgain (S : SOk σ) (T : TOk σ t) (hat : t.at' = 17) : Sp n_eE_headAgain [vp e, vi now] (eP e p rp σ t) (fun _ : Unit => toldV (stepE σ t now)) (fun _ => eQ e p rp (stepE σ t now)) := by
 have hN : σ.μ.N < 1099511627000 := by have := S.N; omega
 refine sp_of fun R H h => ?_
 obtain ⟨nx, rv, g, hv, rfl, hl, _, h0⟩ := eP_all h
 obtain ⟨b, hb, rfl⟩ := hv (by omega)
 have ho := T.obj (.inl (by omega))
 refine wp_of (fun r => eE_headAgain_of _ _ H) ?_
 refine w_new h0 fun b1 H1 h1 => ?_
 refine w_ad end_nf ?_
 refine w_Ld1 h1 rfl ?_
 refine w_ad end_nf ?_
 refine w_Ld1 h1 rfl ?_
 refine w_ld h1 end_nf rfl ?_
 refine w_ld h1 end_nf rfl ?_
 refine w_call h1 (B_ring0 (p := p) hl ho hb (ring_head g.m t.obj b (cellsOf' σ t.obj) σ.μ t.who hN)) fun _ H2 h2 => ?_
 refine w_eq1 h2 h1 (by rfl) ?_
 refine w_eq1 h2 h1 (by rfl) ?_
 refine w_call h2 (B_ring1 (p := p) (σ := headM σ t) hl ho hb (ring_full g.m t.obj b (cellsOf' σ t.obj) t.w (σ.μ.V (12, (t.obj : Int), 0)) T.w (S.cells _ ho).2)) fun _ H3 h3 => ?_
 cases hf : fullW t.w (σ.μ.V (12, (t.obj : Int), 0)) (cellsOf' σ t.obj).length
 ·with_reducible repeat refine gg ?_
  rw [Bool.not_false]
  with_reducible repeat refine gg ?_
  refine w_on (e := e) (p := p) nx (vp b) { t with at' := 7 } n_eE_word h3 fun H9 h9 => ?_
  exact eQ_on (σ' := headM σ t) (t' := { t with at' := 7 }) (v := (vp b)) (n := n_eE_word) (by simp only [stepE, hat, fullT, hf]; rfl) (rvOk_at hb) rfl hl h9.to
 ·with_reducible repeat refine gg ?_
  rw [Bool.not_true]
  with_reducible repeat refine gg ?_
  refine w_st h3 end_nf rfl rfl fun H4 h4 => ?_
  refine w_on (e := e) (p := p) nx (vp b) { t with at' := 18, mark := now } n_eE_seqAgain h4 fun H9 h9 => ?_
  exact eQ_on (σ' := headM σ t) (t' := { t with at' := 18, mark := now }) (v := (vp b)) (n := n_eE_seqAgain) (by simp only [stepE, hat, fullT, hf]; rfl) (rvOk_at hb) rfl hl h9.to
theorem step_seqAgain (S : SOk σ) (T : TOk σ t) (hat : t.at' = 18) : Sp n_eE_seqAgain [vp e, vi now] (eP e p rp σ t) (fun _ : Unit => toldV (stepE σ t now)) (fun _ => eQ e p rp (stepE σ t now)) := by
 have hN : σ.μ.N < 1099511627000 := by have := S.N; omega
 refine sp_of fun R H h => ?_
 obtain ⟨nx, rv, g, hv, rfl, hl, _, h0⟩ := eP_all h
 obtain ⟨b, hb, rfl⟩ := hv (by omega)
 have ho := T.obj (.inl (by omega))
 refine wp_of (fun r => eE_seqAgain_of _ _ H) ?_
 refine w_new h0 fun b1 H1 h1 => ?_
 refine w_ld h1 end_nf rfl ?_
 refine w_ld h1 end_nf rfl ?_
 refine w_call h1 (parts_seq' p g σ t.who S.N) fun _ H2 h2 => ?_
 refine w_ad end_nf ?_
 refine w_Ld1 h2 rfl ?_
 refine w_eq1 h1 h2 (by rfl) ?_
 by_cases hw : σ.μ.V (2, 0, 0) = t.q
 ·refine w_bind (neq_f (show ((σ.μ.V (2, 0, 0) : Nat) : Int) = (t.q : Int) by omega)) ?_
  with_reducible repeat refine gg ?_
  refine w_ld h2 end_nf rfl ?_
  have k2 := partsR_close (p := p) (rp := g.rp) (σ := seqM σ t) (R := eB e p nx (vp b) t * (blk b1 (.cells false [vi 0, .slice none 0 0, vi 0, vw 0]) * R)) g rfl hl h2.to
  refine w_told k2 (enq_refuseR e p g.rp (seqM σ t) nx (vp b) t t.mark 9 (by have := S.pts; show σ.pts.length < _; omega)) fun H9 h9 => ?_
  exact eQ_end (σ' := (seqM σ t).note t.mark t.who 9) (t' := { t with code := 9 }) (by simp only [stepE, hat]; rw [if_pos hw]) rfl h9.to
 ·refine w_bind (neq_t (show ¬ ((σ.μ.V (2, 0, 0) : Nat) : Int) = (t.q : Int) by omega)) ?_
  with_reducible repeat refine gg ?_
  refine w_on (e := e) (p := p) nx (vp b) { t with at' := 7 } n_eE_word h2 fun H9 h9 => ?_
  exact eQ_on (σ' := seqM σ t) (t' := { t with at' := 7 }) (v := (vp b)) (n := n_eE_word) (by simp only [stepE, hat]; rw [if_neg hw]) (rvOk_at hb) rfl hl h9.to
def scanE (σ : Sta) (t : Tk) : Sta × Tk × Bool :=
 (scanM σ t, { scanT σ t with at' := if (scanT σ t).found = true then 6 else if lastT σ (scanT σ t) = true then 3 else 2 }, false)
theorem step_scan (S : SOk σ) (T : TOk σ t) (hat : t.at' = 0 ∨ t.at' = 2) : Sp n_eE_scan [vp e, vi now] (eP e p rp σ t) (fun _ : Unit => toldV (scanE σ t)) (fun _ => eQ e p rp (scanE σ t)) := by
 have hN : σ.μ.N < 1099511627000 := by have := S.N; omega
 refine sp_of fun R H h => ?_
 obtain ⟨nx, rv, g, hv, rfl, hl, _, h0⟩ := eP_all h
 have hi := T.i (by omega) (by omega)
 refine wp_of (fun r => eE_scan_of _ _ H) ?_
 refine w_new h0 fun b1 H1 h1 => ?_
 refine w_call h1 (enq_hit e p g σ nx rv t S hi) fun _ H2 h2 => ?_
 refine wp_eq (eE_scan_k0_eq _ _ _ _ H2) ?_
 refine w_ld h2 end_nf rfl ?_
 cases hf : (scanT σ t).found
 ·with_reducible repeat refine gg ?_
  cases hla : lastT σ (scanT σ t)
  ·with_reducible repeat refine gg ?_
   refine wp_eq (eE_scan_k1_eq _ _ _ H2) ?_
   refine w_on (e := e) (p := p) nx rv { scanT σ t with at' := 2 } n_eE_scan h2 fun H9 h9 => ?_
   exact eQ_on (σ' := scanM σ t) (t' := { scanT σ t with at' := 2 }) (v := rv) (n := n_eE_scan) (by simp only [scanE, hf, hla]; rfl) (rvOk_lt (by simp)) rfl hl h9.to
  ·with_reducible repeat refine gg ?_
   refine w_on (e := e) (p := p) nx rv { scanT σ t with at' := 3 } n_eE_lock h2 fun H9 h9 => ?_
   exact eQ_on (σ' := scanM σ t) (t' := { scanT σ t with at' := 3 }) (v := rv) (n := n_eE_lock) (by simp only [scanE, hf, hla]; rfl) (rvOk_lt (by simp)) rfl hl h9.to
 ·with_reducible repeat refine gg ?_
  refine w_on (e := e) (p := p) nx rv { scanT σ t with at' := 6 } n_eE_look h2 fun H9 h9 => ?_
  exact eQ_on (σ' := scanM σ t) (t' := { scanT σ t with at' := 6 }) (v := rv) (n := n_eE_look) (by simp only [scanE, hf]; rfl) (rvOk_lt (by simp)) rfl hl h9.to
theorem step_search (S : SOk σ) (T : TOk σ t) (hat : t.at' = 4) : Sp n_eE_search [vp e, vi now] (eP e p rp σ t) (fun _ : Unit => toldV (stepE σ t now)) (fun _ => eQ e p rp (stepE σ t now)) := by
 have hN : σ.μ.N < 1099511627000 := by have := S.N; omega
 refine sp_of fun R H h => ?_
 obtain ⟨nx, rv, g, hv, rfl, hl, _, h0⟩ := eP_all h
 have hi := T.i (by omega) (by omega)
 refine wp_of (fun r => eE_search_of _ _ H) ?_
 refine w_new h0 fun b1 H1 h1 => ?_
 refine w_call h1 (enq_hit e p g σ nx rv t S hi) fun _ H2 h2 => ?_
 refine wp_eq (eE_search_k0_eq _ _ _ _ _ H2) ?_
 refine w_ld h2 end_nf rfl ?_
 cases hf : (scanT σ t).found
 ·with_reducible repeat refine gg ?_
  cases hla : lastT σ (scanT σ t)
  ·with_reducible repeat refine gg ?_
   refine wp_eq (eE_search_k1_eq _ _ _ H2) ?_
   refine w_on (e := e) (p := p) nx rv (scanT σ t) n_eE_search h2 fun H9 h9 => ?_
   exact eQ_on (σ' := scanM σ t) (t' := (scanT σ t)) (v := rv) (n := n_eE_search) (by simp only [stepE, hat, hf, hla]; rfl) (rvOk_lt (show t.at' < 7 by omega)) (by show nfOf t.at' = _; rw [hat]; rfl) hl h9.to
  ·with_reducible repeat refine gg ?_
   have k2 := partsR_close (p := p) (rp := g.rp) (σ := scanM σ t) (R := eB e p nx rv (scanT σ t) * (blk b1 (.cells false [vi 0, .slice none 0 0, vi 0, vw 0]) * R)) g rfl hl h2.to
   refine w_call k2 (enq_note e p g.rp (scanM σ t) nx rv (scanT σ t) now 5 (by have := S.pts; show σ.pts.length < _; omega)) fun _ H3 h3 => ?_
   refine w_on (e := e) (p := p) nx rv { scanT σ t with at' := 5, code := 5 } n_eE_unlock h3 fun H9 h9 => ?_
   exact eQ_onR (σ' := (scanM σ t).note now (scanT σ t).who 5) (t' := { scanT σ t with at' := 5, code := 5 }) (v := rv) (n := n_eE_unlock) (by simp only [stepE, hat, hf, hla]; rfl) (rvOk_lt (by simp)) rfl h9.to
 ·with_reducible repeat refine gg ?_
  refine w_on (e := e) (p := p) nx rv { scanT σ t with at' := 5 } n_eE_unlock h2 fun H9 h9 => ?_
  exact eQ_on (σ' := scanM σ t) (t' := { scanT σ t with at' := 5 }) (v := rv) (n := n_eE_unlock) (by simp only [stepE, hat, hf]; rfl) (rvOk_lt (by simp)) rfl hl h9.to
theorem step_first (S : SOk σ) (T : TOk σ t) (hat : t.at' = 0) : Sp n_eE_first [vp e, vi now] (eP e p rp σ t) (fun _ : Unit => toldV (stepE σ t now)) (fun _ => eQ e p rp (stepE σ t now)) := by
 have hN : σ.μ.N < 1099511627000 := by have := S.N; omega
 refine sp_of fun R H h => ?_
 refine wp_of (fun r => eE_first_of _ _ H) ?_
 refine w_new h fun b H1 h1 => ?_
 refine wp_eq (eE_first_k0_eq _ _ _ _ H1) ?_
 obtain ⟨nx, rv, g, hv, rfl, hl, _, k1⟩ := eP_all (e := e) (p := p) (rp := rp) (σ := σ) (t := t) (R := blk b (.cells false [vi 0, .slice none 0 0, vi 0, vw 0]) * R) (H := H1) h1.to
 have fin : ∀ code, refusal t.x = some code → wp ((FF n_eE_refuse [vp e, vi now, vi code] H1).bind fun r25 =>
   (pExtract r25.1 0).bind fun v26 =>
   (pExtract r25.1 1).bind fun v27 =>
   (pSt 4 (vp b) v26 r25.2).bind fun H28 =>
   (pLdN 4 (vp b) H28).bind fun v29 => some (Value.tuple #[v29, v27], H28)) fun v' H' => ∃ x_1 : Unit, v' = toldV (stepE σ t now) ∧ Holds (eQ e p g.rp (stepE σ t now) * R) H' := by
  intro code hx
  have k2 := partsR_close (p := p) (rp := g.rp) (σ := σ) (R := eB e p nx rv t * (blk b (.cells false [vi 0, .slice none 0 0, vi 0, vw 0]) * R)) g rfl hl k1.to
  refine w_told k2 (enq_refuseR e p g.rp σ nx rv t now code (by have := S.pts; omega)) fun H9 h9 => ?_
  exact eQ_end (σ' := σ.note now t.who code) (t' := { t with code := code }) (by simp only [stepE, hat, hx]) rfl h9.to
 have scan : refusal t.x = none → wp (eE_first_k1 (vp e) (vi now) (vp b) (vb false) H1) fun v' H' => ∃ x_1 : Unit, v' = toldV (stepE σ t now) ∧ Holds (eQ e p g.rp (stepE σ t now) * R) H' := by
  intro hx
  have hs : stepE σ t now = scanE σ t := by simp only [stepE, hat, hx, scanE]
  rw [hs]
  refine wp_eq (eE_first_k1_eq _ _ _ _ H1) ?_
  exact w_told h1 (step_scan e p g.rp σ t now S T (.inl hat)) fun H9 h9 => ⟨(), rfl, h9.to⟩
 refine w_ld k1 (end_n (end_f (end_f end_nil))) rfl ?_
 by_cases ha : t.x.a < 1
 ·refine w_bind (lss_t ha) ?_
  with_reducible repeat refine gg ?_
  exact fin 3 (by rw [refusal, if_pos (.inl ha)])
 ·refine w_bind (lss_f ha) ?_
  with_reducible repeat refine gg ?_
  refine w_ld k1 (end_n (end_f (end_f end_nil))) rfl ?_
  with_reducible repeat refine gg ?_
  by_cases ha2 : 65536 < t.x.a
  ·refine w_bind (gtr_t ha2) ?_
   with_reducible repeat refine gg ?_
   exact fin 3 (by rw [refusal, if_pos (.inr ha2)])
  ·refine w_bind (gtr_f ha2) ?_
   with_reducible repeat refine gg ?_
   refine w_ld k1 (end_n (end_f (end_f end_nil))) rfl ?_
   by_cases hf : t.x.flow < 0
   ·refine w_bind (lss_t hf) ?_
    with_reducible repeat refine gg ?_
    exact fin 5 (by rw [refusal, if_neg (by omega), if_pos (.inl hf)])
   ·refine w_bind (lss_f hf) ?_
    with_reducible repeat refine gg ?_
    refine w_ld k1 (end_n (end_f (end_f end_nil))) rfl ?_
    with_reducible repeat refine gg ?_
    by_cases hf2 : 1048576 < t.x.flow
    ·refine w_bind (gtr_t hf2) ?_
     with_reducible repeat refine gg ?_
     exact fin 5 (by rw [refusal, if_neg (by omega), if_pos (.inr hf2)])
    ·refine w_bind (gtr_f hf2) ?_
     with_reducible repeat refine gg ?_
     exact scan (by rw [refusal, if_neg (by omega), if_neg (by omega)])
theorem enq_step (S : SOk σ) (T : TOk σ t) : Sp n_eE_Step [vp e, vi now] (eP e p rp σ t) (fun _ : Unit => toldV (stepE σ t now)) (fun _ => eQ e p rp (stepE σ t now)) := by
 refine sp_of fun R H h => ?_
 refine wp_of (fun r => eE_Step_of _ _ H) ?_
 refine w_new h fun b H1 h1 => ?_
 obtain ⟨rv, hv, k1⟩ := eP_open (e := e) (p := p) (rp := rp) (σ := σ) (t := t) (R := blk b (.cells false [vi 0, .slice none 0 0, vi 0, vw 0]) * R) (H := H1) h1.to
 refine w_ld k1 end_nf rfl ?_
 refine wp_eq (show (pCallee (.func (.func (nfOf t.at')) #[vp e] #[]) [vi now]).bind _ = _ from rfl) ?_
 have hs : Sp (nfOf t.at') [vp e, vi now] (eP e p rp σ t) (fun _ : Unit => toldV (stepE σ t now)) (fun _ => eQ e p rp (stepE σ t now)) := by
  rcases T.ats with hat | hat | hat | hat | hat | hat | hat | hat | hat | hat | hat | hat | hat | hat | hat | hat | hat | hat | hat | hat | hat | hat | hat | hat <;> rw [show nfOf t.at' = _ from by rw [hat]]
  ·exact step_first e p rp σ t now S T hat
  ·have h := step_scan e p rp σ t now S T (.inr hat)
   have hs : stepE σ t now = scanE σ t := by simp only [stepE, hat, scanE]
   rw [hs]; exact h
  ·exact step_lock e p rp σ t now S T hat
  ·exact step_search e p rp σ t now S T hat
  ·exact step_unlock e p rp σ t now S T hat
  ·exact step_look e p rp σ t now S T hat
  ·exact step_word e p rp σ t now S T hat
  ·exact step_head e p rp σ t now S T hat
  ·exact step_claim e p rp σ t now S T hat
  ·exact step_put e p rp σ t now S T hat
  ·exact step_show e p rp σ t now S T hat
  ·exact step_begin e p rp σ t now S T hat
  ·exact step_wake e p rp σ t now S T hat
  ·exact step_down e p rp σ t now S T hat
  ·exact step_seq e p rp σ t now S T hat
  ·exact step_wordAgain e p rp σ t now S T hat
  ·exact step_headAgain e p rp σ t now S T hat
  ·exact step_seqAgain e p rp σ t now S T hat
  ·exact step_back e p rp σ t now S T hat
  ·exact step_shown e p rp σ t now S T hat
  ·exact step_topmost e p rp σ t now S T hat
  ·exact step_link e p rp σ t now S T hat
  ·exact step_push e p rp σ t now S T hat
  ·exact step_end e p rp σ t now S T hat
 exact w_told h1 hs fun H9 h9 => ⟨(), rfl, h9.to⟩
end
structure Xk where
 a : Nat
 I : Nat
 free : Int
 hit : Bool
 obj : Nat
 w : Nat
 h : Nat
 q : Nat
 top : Nat
 mark : Int
 code : Int
abbrev xB (x P : Nat) (t : Tk) (k : Xk) : SP :=
 blk x (.cells false [vp P, vi t.who, vi t.x.op, vi t.x.flow, vi t.x.a, vi t.x.b, vi k.a, vi k.I, vi k.free, vb k.hit, vi k.obj, vu k.w, vu k.h, vu k.q, vw 0, vu k.top, vi k.mark, vi k.code, .slice none 0 0, vi 0, vw 0,
  vi 0, vi 0, .slice none 0 0, vw 0, vw 0, vi 0, vi 0, vi 0, vb false, vi 0, .slice none 0 0, vi 0, vw 0])
def Rlt (t : Tk) (k : Xk) : Prop := k.a = t.at' ∧ match t.at' with
 | 0 => k.I = t.i ∧ k.hit = false
 | 2 => k.I = t.i ∧ k.hit = false
 | 4 => k.I = t.i ∧ k.hit = false
 | 5 => k.hit = t.found ∧ (t.found = true → k.obj = t.obj) ∧ (t.found = false → k.code = t.code)
 | 6 => k.obj = t.obj
 | 7 => k.obj = t.obj
 | 8 => k.obj = t.obj ∧ k.w = t.w
 | 9 => k.obj = t.obj ∧ k.w = t.w
 | 10 => k.obj = t.obj ∧ k.w = t.w ∧ k.q = 0 ∧ k.code = t.code
 | 11 => k.obj = t.obj ∧ k.w = t.w ∧ k.code = t.code
 | 12 => k.obj = t.obj ∧ k.w = t.w
 | 13 => k.obj = t.obj ∧ k.w = t.w
 | 14 => k.obj = t.obj ∧ k.w = t.w ∧ k.q = 1 ∧ k.code = t.code
 | 15 => k.obj = t.obj
 | 16 => k.obj = t.obj ∧ k.q = t.q
 | 17 => k.obj = t.obj ∧ k.w = t.w ∧ k.q = t.q
 | 18 => k.obj = t.obj ∧ k.q = t.q ∧ k.mark = t.mark
 | 20 => k.obj = t.obj
 | 21 => k.obj = t.obj ∧ k.w = t.w ∧ k.code = t.code
 | 22 => k.obj = t.obj ∧ k.code = t.code
 | 23 => k.obj = t.obj ∧ k.top = t.top ∧ k.code = t.code
 | 24 => k.obj = t.obj ∧ k.top = t.top ∧ k.code = t.code
 | 25 => k.code = t.code
 | _ => True
def xP (x P : Nat) (σ : Sta) (t : Tk) : SP := ex fun k : Xk => pu (Rlt t k) * (xB x P t k * partsX P σ)
def xQ (x P : Nat) (r : Sta × Tk × Bool) : SP := ex fun k : Xk => pu (if r.2.2 = true then k.code = r.2.1.code else Rlt r.2.1 k) * (xB x P r.2.1 k * partsX P r.1)
section
variable {x P : Nat} {g : XIds} {σ σ' : Sta} {t t' : Tk} {R : SP} {H : AH} {r : Sta × Tk × Bool} {k : Xk}
theorem xP_open (h : Holds (xP x P σ t * R) H) : ∃ (k : Xk) (g : XIds), Rlt t k ∧ partsXR g σ ∧ Holds (xB x P t k * (partsXB P g σ * R)) H := by
 obtain ⟨k, h1⟩ := Holds.ex.1 h
 rw [sep_assoc, Holds.pu] at h1
 obtain ⟨g, h2, h3⟩ := partsX_open (p := P) (σ := σ) (R := xB x P t k * R) (H := H) h1.2.to
 exact ⟨k, g, h1.1, h2, h3.to⟩
theorem xQ_go (hr : r = (σ', t', false)) (hR : Rlt t' k) (hg : partsXR g σ') (h : Holds (xB x P t' k * (partsXB P g σ' * R)) H) : ∃ y : Unit, (vb false : Value) = vb r.2.2 ∧ Holds (xQ x P r * R) H := by
 subst hr
 refine ⟨(), rfl, Holds.ex.2 ⟨k, ?_⟩⟩
 rw [sep_assoc, Holds.pu]
 have h1 := partsX_close (p := P) (σ := σ') (R := xB x P t' k * R) g hg h.to
 exact ⟨hR, h1.to⟩
theorem xQ_end (hr : r = (σ', t', true)) (hc : k.code = t'.code) (hg : partsXR g σ') (h : Holds (xB x P t' k * (partsXB P g σ' * R)) H) : ∃ y : Unit, (vb true : Value) = vb r.2.2 ∧ Holds (xQ x P r * R) H := by
 subst hr
 refine ⟨(), rfl, Holds.ex.2 ⟨k, ?_⟩⟩
 rw [sep_assoc, Holds.pu]
 have h1 := partsX_close (p := P) (σ := σ') (R := xB x P t' k * R) g hg h.to
 exact ⟨hc, h1.to⟩
theorem partsXR_le {c : Cfg} {μ' : Mu} {obs' : List (Ob × List Pk)} {nx' : Int → Option Nat} {pts' : List Pt} {pv : Value} (h : partsXR g σ) (hN : σ.μ.N ≤ μ'.N) (ho : obs'.length = σ.obs.length) : partsXR { g with pv := pv } ⟨c, μ', obs', nx', σ.places, pts'⟩ :=
 ⟨h.1.trans ho.symm, h.2.1, Nat.le_trans h.2.2 hN⟩
theorem partsXR_le0 {c : Cfg} {μ' : Mu} {obs' : List (Ob × List Pk)} {nx' : Int → Option Nat} {pts' : List Pt} (h : partsXR g σ) (hN : σ.μ.N ≤ μ'.N) (ho : obs'.length = σ.obs.length) : partsXR g ⟨c, μ', obs', nx', σ.places, pts'⟩ :=
 ⟨h.1.trans ho.symm, h.2.1, Nat.le_trans h.2.2 hN⟩
end
section
variable (x P : Nat) (g : XIds) (σ : Sta) (t : Tk) (k : Xk)
theorem xt_ring (hl : g.rp.length = σ.obs.length) (b : Nat) (ho : k.obj < σ.obs.length) (hb : g.rp[k.obj]? = some b) : Sp n_r16_Task_ring [vp x] (xB x P t k * partsXB P g σ) (fun _ : Unit => vp b) (fun _ => xB x P t k * partsXB P g σ) := by
 refine sp_of fun R H h => ?_
 refine wp_of (fun r => r16_Task_ring_of _ H) ?_
 refine w_ld h end_nf rfl ?_
 refine w_ld h end_nf rfl ?_
 refine w_ld h end_nf rfl ?_
 have h2 := h
 unfold partsXB at h2
 refine w_rld1 (s := g.rv) (l := g.rp) (v := vp b) h2 (by omega) ?_ ?_
 ·rw [List.getElem?_eq_getElem (by omega)] at hb
  rw [Option.some.inj hb]
 exact w_ret ⟨(), rfl, h⟩
theorem xt_count (hw : k.w < 18446744073709551616) : Sp n_r16_Task_count [vp x] (xB x P t k) (fun _ : Unit => vu (wCount k.w)) (fun _ => xB x P t k) := by
 refine sp_of fun R H h => ?_
 refine wp_of (fun r => r16_Task_count_of _ H) ?_
 refine w_ld h end_nf rfl ?_
 refine w_call h (r01_parts k.w hw) fun _ H1 h1 => ?_
 refine w_bind (v := vu (wCount k.w)) rfl ?_
 refine w_bind (v := vi (wState k.w)) rfl ?_
 refine w_bind (v := vb (wRight k.w)) rfl ?_
 exact w_ret ⟨(), rfl, h1.to⟩
theorem xt_word (S : SOk σ) (hl : g.rp.length = σ.obs.length) (b : Nat) (ho : k.obj < σ.obs.length) (hb : g.rp[k.obj]? = some b) :
  Sp n_r16_Task_word [vp x] (xB x P t k * partsXB P g σ) (fun _ : Unit => vi (wState (σ.μ.V (11, (k.obj : Int), 0)))) (fun _ => xB x P t { k with w := σ.μ.V (11, (k.obj : Int), 0) } * partsXB P g (σ.mem (σ.μ.acc t.who 1 (11, (k.obj : Int), 0)))) := by
 have hN : σ.μ.N < 1099511627000 := by have := S.N; omega
 refine sp_of fun R H h => ?_
 refine wp_of (fun r => r16_Task_word_of _ H) ?_
 refine w_call h (xt_ring x P g σ t k hl b ho hb) fun _ H1 h1 => ?_
 refine w_ad end_nf ?_
 refine w_Ld1 h1 rfl ?_
 refine w_eq1 h h1 (by rfl) ?_
 refine w_call h1 (XB_ring0 (p := P) (μ' := σ.μ.acc t.who 1 (11, (k.obj : Int), 0)) (by simp) hl ho hb (xring_word g.m k.obj b (cellsOf' σ k.obj) σ.μ t.who hN)) fun _ H2 h2 => ?_
 refine w_st h2 end_nf rfl rfl fun H3 h3 => ?_
 refine w_ld h3 end_nf rfl ?_
 refine w_call h3 (r01_parts _ (S.V _)) fun _ H4 h4 => ?_
 refine w_bind (v := vu (wCount (σ.μ.V (11, (k.obj : Int), 0)))) rfl ?_
 refine w_bind (v := vi (wState (σ.μ.V (11, (k.obj : Int), 0)))) rfl ?_
 refine w_bind (v := vb (wRight (σ.μ.V (11, (k.obj : Int), 0)))) rfl ?_
 exact w_ret ⟨(), rfl, h4.to⟩
theorem xt_note (hg : partsXR g σ) (now e : Int) (hN : σ.μ.N < 1000000000) (hp : σ.pts.length < 900000) :
  Sp n_r16_Task_note [vp x, vi now, vi e] (xB x P t k * partsXB P g σ) (fun _ : Value => .tuple #[]) (fun v => xB x P t { k with code := e } * partsXB P { g with pv := v } (σ.note now t.who e)) := by
 refine sp_of fun R H h => ?_
 refine wp_of (fun r => r16_Task_note_of _ _ _ H) ?_
 refine w_S ?_
 refine w_st h end_nf rfl rfl fun H1 h1 => ?_
 refine w_ld h1 end_nf rfl ?_
 refine w_ld h1 end_nf rfl ?_
 refine w_ldN h1 end_nf ?_
 refine w_call h1 (xnote P g σ now t.who e (hg.2.1 _) (by have := hg.2.2; omega) hp) fun v H2 h2 => ?_
 exact w_ret ⟨v, rfl, h2.to⟩
def XScan (t1 : Tk) (k k' : Xk) : Prop := k'.a = k.a ∧ k'.w = k.w ∧ k'.q = k.q ∧ k'.top = k.top ∧ k'.mark = k.mark ∧ k'.code = k.code ∧ (t1.found = true → k'.hit = true ∧ k'.obj = t1.obj) ∧ (t1.found = false → k'.hit = k.hit ∧ k'.I = k.I + 1)
theorem xt_scan (S : SOk σ) (T : TOk σ t) (hI : k.I = t.i) (hi : (t.i : Int) < σ.c.sl) :
  Sp n_rTs [vp x] (xB x P t k * partsXB P g σ) (fun _ : Xk => .tuple #[vb (scanT σ t).found, vb (!(scanT σ t).found && lastT σ (scanT σ t))]) (fun k' => pu (XScan (scanT σ t) k k') * (xB x P t k' * partsXB P g (scanM σ t))) := by
 have hN : σ.μ.N < 1099511627000 := by have := S.N; omega
 have hc := rightB_iff.1 S.c
 refine sp_of fun R H h => ?_
 refine wp_of (fun r => rTs_of _ H) ?_
 refine w_ad end_nf ?_
 refine w_Ld1 h rfl ?_
 refine w_ad end_nf ?_
 refine w_Ld1 h rfl ?_
 refine w_ad end_nf ?_
 refine w_Ld1 h rfl ?_
 refine w_ld h end_nf rfl ?_
 refine w_ld h end_nf rfl ?_
 refine w_ld h (end_n (end_f (end_f end_nil))) rfl ?_
 refine w_call h (XB_tab1 (p := P) (g := g) (σ := σ) (xtable_shard g.tb g.m σ.c.sh.toNat σ.c.sl.toNat (by omega) t.x.flow)) fun _ H1 h1 => ?_
 refine w_eq1 h1 h (by rfl) ?_
 refine w_eq1 h1 h (by rfl) ?_
 refine w_eq1 h1 h (by rfl) ?_
 have es : vi ((t.x.flow.tmod (σ.c.sh.toNat : Int) + (σ.c.sh.toNat : Int)).tmod (σ.c.sh.toNat : Int)) = vi t.s := by rw [T.s, show ((σ.c.sh.toNat : Nat) : Int) = σ.c.sh from by omega]
 rw [es]
 refine w_ad end_nf ?_
 refine w_Ld1 h1 rfl ?_
 refine w_eq1 h h1 (by rfl) ?_
 rw [hI]
 have ek : k = { k with I := t.i } := by rw [← hI]
 rw [ek] at h1
 refine w_call h1 (XB_tab (p := P) (g := g) (σ := σ) (μ' := σ.μ.acc t.who 1 (10, t.s, (t.i : Int))) (by simp) (r16_slotV g.tb g.m σ.c.sh.toNat σ.c.sl.toNat σ.μ t.who t.s t.i hN (S.V _))) fun _ H2 h2 => ?_
 have tail : ∀ (k' : Xk) (H' : AH), XScan { scanT σ t with found := false } { k with I := t.i } { k' with I := t.i + 1 } → k'.I = t.i → (scanT σ t).found = false → Holds (xB x P t k' * (partsXB P g (scanM σ t) * R)) H' →
   wp (rTs_k1 (vp x) (vb false) (vb false) H') fun v' H' => ∃ k' : Xk, v' = .tuple #[vb (scanT σ t).found, vb (!(scanT σ t).found && lastT σ (scanT σ t))] ∧ Holds (pu (XScan (scanT σ t) k k') * (xB x P t k' * partsXB P g (scanM σ t)) * R) H' := by
  intro k' H' hX hI' hf h'
  refine wp_eq (rTs_k1_eq ..) ?_
  refine w_ld h' end_nf rfl ?_
  rw [hI']
  refine w_bind (bin_add_i (by omega) (by omega)) ?_
  rw [show ((t.i : Nat) : Int) + 1 = ((t.i + 1 : Nat) : Int) from by omega]
  refine w_st h' end_nf rfl rfl fun H3 h3 => ?_
  refine w_ld h3 end_nf rfl ?_
  refine w_ld h3 end_nf rfl ?_
  refine w_ld h3 end_nf rfl ?_
  have h4 := h3
  unfold partsXB tab at h4
  refine w_ld h4 end_nf rfl ?_
  refine w_bind (v := vb (lastT σ (scanT σ t))) ?_ ?_
  ·rw [bin_geq]
   congr 3
   show ((σ.c.sl.toNat : Int) ≤ _) = (σ.c.sl ≤ ((t.i + 1 : Nat) : Int))
   apply propext
   omega
  refine w_ret ⟨{ k' with I := t.i + 1 }, by rw [hf]; rfl, ?_⟩
  rw [sep_assoc, Holds.pu]
  refine ⟨?_, h3.to⟩
  have e0 : scanT σ t = { scanT σ t with found := false } := by rw [← hf]
  rw [e0]
  simpa [XScan, hI] using hX
 by_cases hv : σ.μ.V (10, t.s, (t.i : Int)) = 0
 ·have e1 : slotV (σ.μ.V (10, t.s, (t.i : Int))) = .tuple #[vi 0, vi 0, vb false] := by rw [slotV, if_pos hv]
  have hf : (scanT σ t).found = false := decide_eq_false fun q => q.1 hv
  rw [e1]
  refine w_bind (v := vi 0) rfl ?_
  refine w_bind (v := vi 0) rfl ?_
  refine w_bind (v := vb false) rfl ?_
  with_reducible repeat refine gg ?_
  refine wp_eq (rTs_k0_eq ..) ?_
  with_reducible repeat refine gg ?_
  rw [Bool.not_false]
  with_reducible repeat refine gg ?_
  refine w_ld h2 end_nf rfl ?_
  by_cases hfr : k.free < 0
  ·refine w_gB_tt ?_
   refine w_bind (lss_t hfr) ?_
   with_reducible repeat refine gg ?_
   refine w_ld h2 end_nf rfl ?_
   refine w_st h2 end_nf rfl rfl fun H3 h3 => ?_
   exact tail { k with I := t.i, free := t.i } H3 (by simp [XScan]) rfl hf h3.to
  ·refine w_gB_tt ?_
   refine w_bind (lss_f hfr) ?_
   with_reducible repeat refine gg ?_
   exact tail { k with I := t.i } H2 (by simp [XScan]) rfl hf h2.to
 ·have e1 : slotV (σ.μ.V (10, t.s, (t.i : Int))) = .tuple #[vi ((σ.μ.V (10, t.s, (t.i : Int)) / 4294967296 : Nat) - 1), vi (σ.μ.V (10, t.s, (t.i : Int)) % 4294967296 : Nat), vb true] := by rw [slotV, if_neg hv]
  rw [e1]
  refine w_bind (v := vi ((σ.μ.V (10, t.s, (t.i : Int)) / 4294967296 : Nat) - 1)) rfl ?_
  refine w_bind (v := vi (σ.μ.V (10, t.s, (t.i : Int)) % 4294967296 : Nat)) rfl ?_
  refine w_bind (v := vb true) rfl ?_
  with_reducible repeat refine gg ?_
  refine w_ld h2 (end_n (end_f (end_f end_nil))) rfl ?_
  refine w_gB_tt ?_
  by_cases hf : ((σ.μ.V (10, t.s, (t.i : Int)) / 4294967296 : Nat) : Int) - 1 = t.x.flow
  ·have hfo : (scanT σ t).found = true := decide_eq_true ⟨hv, hf⟩
   have hob : (scanT σ t).obj = σ.μ.V (10, t.s, (t.i : Int)) % 4294967296 := if_pos hfo
   refine w_bind (eql_t hf) ?_
   with_reducible repeat refine gg ?_
   refine w_st h2 end_nf rfl rfl fun H3 h3 => ?_
   refine w_st h3 end_nf rfl rfl fun H4 h4 => ?_
   refine w_ret ⟨{ k with I := t.i, hit := true, obj := σ.μ.V (10, t.s, (t.i : Int)) % 4294967296 }, by rw [hfo]; rfl, ?_⟩
   rw [sep_assoc, Holds.pu]
   exact ⟨by simp [XScan, hfo, hob], h4.to⟩
  ·have hfo : (scanT σ t).found = false := decide_eq_false fun q => hf q.2
   refine w_bind (eql_f hf) ?_
   with_reducible repeat refine gg ?_
   refine wp_eq (rTs_k0_eq ..) ?_
   with_reducible repeat refine gg ?_
   rw [Bool.not_true]
   with_reducible repeat refine gg ?_
   exact tail { k with I := t.i } H2 (by simp [XScan]) rfl hfo h2.to
theorem xenq_pre {R : SP} {H : AH} {Q : Value → AH → Prop} (now : Int) (S : SOk σ) (T : TOk σ t) (h : Holds (xB x P t k * (partsXB P g σ * R)) H)
  (hk : ∀ b H', Holds (blk b (.cells false [vi t.x.flow, vi t.x.a, vi t.x.b]) * (xB x P t k * (partsXB P g σ * R))) H' → wp (rTE_k0 (vp x) (vi now) (vb false) (vp P) (vi t.s) (vp b) H') Q) :
  wp (FF n_rTE [vp x, vi now] H) Q := by
 have hc := rightB_iff.1 S.c
 refine wp_of (fun r => rTE_of _ _ H) ?_
 refine w_ad end_nf ?_
 refine w_Ld1 h rfl ?_
 refine w_ld h end_nf rfl ?_
 refine w_ld h end_nf rfl ?_
 refine w_ld h (end_n (end_f (end_f end_nil))) rfl ?_
 refine w_call h (XB_tab1 (p := P) (g := g) (σ := σ) (xtable_shard g.tb g.m σ.c.sh.toNat σ.c.sl.toNat (by omega) t.x.flow)) fun _ H1 h1 => ?_
 refine w_eq1 h1 h (by rfl) ?_
 have es : vi ((t.x.flow.tmod (σ.c.sh.toNat : Int) + (σ.c.sh.toNat : Int)).tmod (σ.c.sh.toNat : Int)) = vi t.s := by rw [T.s, show ((σ.c.sh.toNat : Nat) : Int) = σ.c.sh from by omega]
 rw [es]
 refine w_ld h1 (end_n (end_f (end_f end_nil))) rfl ?_
 refine w_ld h1 (end_n (end_f (end_f end_nil))) rfl ?_
 refine w_ld h1 (end_n (end_f (end_f end_nil))) rfl ?_
 refine w_S ?_
 refine w_new h1 fun b H2 h2 => ?_
 refine w_St h2 rfl rfl fun H3 h3 => ?_
 exact hk b H3 h3.to
theorem xenq_pre' {R : SP} {H : AH} {Q : Value → AH → Prop} (now : Int) (S : SOk σ) (T : TOk σ t) (ha : k.a ≠ 0) (h : Holds (xB x P t k * (partsXB P g σ * R)) H)
  (hk : ∀ b H', Holds (blk b (.cells false [vi t.x.flow, vi t.x.a, vi t.x.b]) * (xB x P t k * (partsXB P g σ * R))) H' → wp (rTE_k3 (vp x) (vi now) (vb false) (vp P) (vi t.s) (vp b) (vi k.a) H') Q) :
  wp (FF n_rTE [vp x, vi now] H) Q := by
 refine xenq_pre x P g σ t k now S T h fun b H1 h1 => ?_
 refine wp_eq (rTE_k0_eq ..) ?_
 refine w_ld h1 end_nf rfl ?_
 refine w_bind (eql_f (by omega)) ?_
 with_reducible repeat refine gg ?_
 refine wp_eq (rTE_k1_eq ..) ?_
 refine w_ld h1 end_nf rfl ?_
 exact hk b H1 h1
end
theorem w_tail {f : Nat} {args : List Value} {H : AH} {Q : Value → AH → Prop} (h : wp (FF f args H) Q) : wp ((FF f args H).bind fun r => some (r.1, r.2)) Q := by
 obtain ⟨v, H', e, q⟩ := h
 rw [e]; exact ⟨v, H', rfl, q⟩
section
variable (x P : Nat) (σ : Sta) (t : Tk) (now : Int)
theorem ch6 {x0 x1 x4 x5 x6 x7 : Value} {a : Nat} {H : AH} {Q : Value → AH → Prop} (h : a ≠ 2 ∧ a ≠ 3 ∧ a ≠ 4 ∧ a ≠ 5) (hk : wp ((pBin .other .eql (vi (a : Int)) (vi 6)).bind fun v => rTE_k32 x0 x1 x4 x5 x6 x7 (vi (a : Int)) v H) Q) : wp (rTE_k3 x0 x1 x4 x5 x6 x7 (vi (a : Int)) H) Q := by
 refine wp_eq (rTE_k3_eq ..) ?_
 refine w_bind (eql_f (by omega)) ?_
 refine wp_eq (rTE_k5_eq ..) ?_
 with_reducible repeat refine gg ?_
 refine w_bind (eql_f (by omega)) ?_
 refine wp_eq (rTE_k11_eq ..) ?_
 with_reducible repeat refine gg ?_
 refine w_bind (eql_f (by omega)) ?_
 refine wp_eq (rTE_k18_eq ..) ?_
 with_reducible repeat refine gg ?_
 refine w_bind (eql_f (by omega)) ?_
 refine wp_eq (rTE_k25_eq ..) ?_
 with_reducible repeat refine gg ?_
 exact hk
theorem ch8 {x0 x1 x4 x5 x6 x7 : Value} {a : Nat} {H : AH} {Q : Value → AH → Prop} (h : a ≠ 2 ∧ a ≠ 3 ∧ a ≠ 4 ∧ a ≠ 5 ∧ a ≠ 6 ∧ a ≠ 7) (hk : wp ((pBin .other .eql (vi (a : Int)) (vi 8)).bind fun v => rTE_k42 x0 x1 x4 x5 x6 x7 (vi (a : Int)) v H) Q) : wp (rTE_k3 x0 x1 x4 x5 x6 x7 (vi (a : Int)) H) Q := by
 refine ch6 (by omega) ?_
 refine w_bind (eql_f (by omega)) ?_
 refine wp_eq (rTE_k32_eq ..) ?_
 with_reducible repeat refine gg ?_
 refine w_bind (eql_f (by omega)) ?_
 refine wp_eq (rTE_k37_eq ..) ?_
 with_reducible repeat refine gg ?_
 exact hk
theorem ch10 {x0 x1 x4 x5 x6 x7 : Value} {a : Nat} {H : AH} {Q : Value → AH → Prop} (h : a ≠ 2 ∧ a ≠ 3 ∧ a ≠ 4 ∧ a ≠ 5 ∧ a ≠ 6 ∧ a ≠ 7 ∧ a ≠ 8 ∧ a ≠ 9 ∧ a ≠ 13) (hk : wp ((pBin .other .eql (vi (a : Int)) (vi 10)).bind fun v98 => condK v98 (rTE_k67 x0 x1 x4 x5 x6 x7 (vi (a : Int)) v98 H) ((pBin .other .eql (vi (a : Int)) (vi 14)).bind fun v99 => rTE_k67 x0 x1 x4 x5 x6 x7 (vi (a : Int)) v99 H)) Q) : wp (rTE_k3 x0 x1 x4 x5 x6 x7 (vi (a : Int)) H) Q := by
 refine ch8 (by omega) ?_
 refine w_bind (eql_f (by omega)) ?_
 refine wp_eq (rTE_k42_eq ..) ?_
 with_reducible repeat refine gg ?_
 refine w_bind (eql_f (by omega)) ?_
 with_reducible repeat refine gg ?_
 refine w_bind (eql_f (by omega)) ?_
 refine wp_eq (rTE_k65_eq ..) ?_
 with_reducible repeat refine gg ?_
 exact hk
theorem ch11 {x0 x1 x4 x5 x6 x7 : Value} {a : Nat} {H : AH} {Q : Value → AH → Prop} (h : a ≠ 2 ∧ a ≠ 3 ∧ a ≠ 4 ∧ a ≠ 5 ∧ a ≠ 6 ∧ a ≠ 7 ∧ a ≠ 8 ∧ a ≠ 9 ∧ a ≠ 10 ∧ a ≠ 13 ∧ a ≠ 14) (hk : wp ((pBin .other .eql (vi (a : Int)) (vi 11)).bind fun v => rTE_k78 x0 x1 x4 x5 x6 (vi (a : Int)) v H) Q) : wp (rTE_k3 x0 x1 x4 x5 x6 x7 (vi (a : Int)) H) Q := by
 refine ch10 (by omega) ?_
 refine w_bind (eql_f (by omega)) ?_
 with_reducible repeat refine gg ?_
 refine w_bind (eql_f (by omega)) ?_
 refine wp_eq (rTE_k67_eq ..) ?_
 with_reducible repeat refine gg ?_
 exact hk
theorem ch15 {x0 x1 x4 x5 x6 x7 : Value} {a : Nat} {H : AH} {Q : Value → AH → Prop} (h : a ≠ 2 ∧ a ≠ 3 ∧ a ≠ 4 ∧ a ≠ 5 ∧ a ≠ 6 ∧ a ≠ 7 ∧ a ≠ 8 ∧ a ≠ 9 ∧ a ≠ 10 ∧ a ≠ 11 ∧ a ≠ 12 ∧ a ≠ 13 ∧ a ≠ 14) (hk : wp ((pBin .other .eql (vi (a : Int)) (vi 15)).bind fun v92 => condK v92 (rTE_k89 x0 x1 x4 x6 v92 H) ((pBin .other .eql (vi (a : Int)) (vi 16)).bind fun v93 => condK v93 (rTE_k89 x0 x1 x4 x6 v93 H) ((pBin .other .eql (vi (a : Int)) (vi 17)).bind fun v94 => condK v94 (rTE_k89 x0 x1 x4 x6 v94 H) ((pBin .other .eql (vi (a : Int)) (vi 18)).bind fun v95 => rTE_k89 x0 x1 x4 x6 v95 H)))) Q) : wp (rTE_k3 x0 x1 x4 x5 x6 x7 (vi (a : Int)) H) Q := by
 refine ch11 (by omega) ?_
 refine w_bind (eql_f (by omega)) ?_
 refine wp_eq (rTE_k78_eq ..) ?_
 with_reducible repeat refine gg ?_
 refine w_bind (eql_f (by omega)) ?_
 refine wp_eq (rTE_k84_eq ..) ?_
 with_reducible repeat refine gg ?_
 exact hk
theorem chw {x0 x1 x4 x5 x6 x7 : Value} {a : Nat} {H : AH} {Q : Value → AH → Prop} (h : a ≠ 2 ∧ a ≠ 3 ∧ a ≠ 4 ∧ a ≠ 5 ∧ a ≠ 6 ∧ a ≠ 7 ∧ a ≠ 8 ∧ a ≠ 9 ∧ a ≠ 10 ∧ a ≠ 11 ∧ a ≠ 12 ∧ a ≠ 13 ∧ a ≠ 14 ∧ a ≠ 15 ∧ a ≠ 16 ∧ a ≠ 17 ∧ a ≠ 18) (hk : wp ((FF n_rTw [x0, x6] H).bind fun r91 => some (r91.1, r91.2)) Q) : wp (rTE_k3 x0 x1 x4 x5 x6 x7 (vi (a : Int)) H) Q := by
 refine ch15 (by omega) ?_
 refine w_bind (eql_f (by omega)) ?_
 with_reducible repeat refine gg ?_
 refine w_bind (eql_f (by omega)) ?_
 with_reducible repeat refine gg ?_
 refine w_bind (eql_f (by omega)) ?_
 with_reducible repeat refine gg ?_
 refine w_bind (eql_f (by omega)) ?_
 refine wp_eq (rTE_k89_eq ..) ?_
 with_reducible repeat refine gg ?_
 exact hk
theorem xstep_3 (S : SOk σ) (T : TOk σ t) (hat : t.at' = 3) : Sp n_rTE [vp x, vi now] (xP x P σ t) (fun _ : Unit => vb (stepE σ t now).2.2) (fun _ => xQ x P (stepE σ t now)) := by
 have hN : σ.μ.N < 1099511627000 := by have := S.N; omega
 refine sp_of fun R H h => ?_
 obtain ⟨k, g, hR, hg, h0⟩ := xP_open h
 have hl := hg.1
 simp only [Rlt, hat] at hR
 obtain ⟨ha, _⟩ := hR
 refine xenq_pre' x P g σ t k now S T (by omega) h0 fun b1 H1 h1 => ?_
 refine wp_eq (rTE_k3_eq ..) ?_
 refine w_bind (eql_f (by omega)) ?_
 refine wp_eq (rTE_k5_eq ..) ?_
 with_reducible repeat refine gg ?_
 refine w_bind (eql_t (by omega)) ?_
 refine wp_eq (rTE_k11_eq ..) ?_
 with_reducible repeat refine gg ?_
 refine w_ld h1 end_nf rfl ?_
 refine w_ld h1 end_nf rfl ?_
 refine w_call h1 (XB_tab (p := P) (g := g) (σ := σ) (μ' := σ.μ.swp t.who (8, t.s, 0) 0 1) (by simp) (r16_lock g.tb g.m σ.c.sh.toNat σ.c.sl.toNat σ.μ t.who t.s hN)) fun _ H2 h2 => ?_
 by_cases hw : σ.μ.V (8, t.s, 0) = 0
 ·rw [decide_eq_true hw]
  with_reducible repeat refine gg ?_
  refine w_st h2 end_nf rfl rfl fun H3 h3 => ?_
  refine w_st h3 end_nf rfl rfl fun H4 h4 => ?_
  refine w_st h4 end_nf rfl rfl fun H5 h5 => ?_
  refine wp_eq (rTE_k2_eq ..) ?_
  exact w_ret (xQ_go (g := g) (σ' := σ.mem (σ.μ.swp t.who (8, t.s, 0) 0 1)) (t' := { t with at' := 4, i := 0 }) (k := { k with a := 4, I := 0, hit := false }) (by simp only [stepE, hat]; rw [if_pos hw]) (by simp [Rlt]) (partsXR_le0 (σ := σ) hg (by simp) rfl) h5.to)
 ·rw [decide_eq_false hw]
  with_reducible repeat refine gg ?_
  refine wp_eq (rTE_k2_eq ..) ?_
  exact w_ret (xQ_go (g := g) (σ' := σ.mem (σ.μ.swp t.who (8, t.s, 0) 0 1)) (t' := t) (k := k) (by simp only [stepE, hat]; rw [if_neg hw]) (by simp only [Rlt, hat]; exact ⟨ha, trivial⟩) (partsXR_le0 (σ := σ) hg (by simp) rfl) h2.to)
theorem xstep_5 (S : SOk σ) (T : TOk σ t) (hat : t.at' = 5) : Sp n_rTE [vp x, vi now] (xP x P σ t) (fun _ : Unit => vb (stepE σ t now).2.2) (fun _ => xQ x P (stepE σ t now)) := by
 have hN : σ.μ.N < 1099511627000 := by have := S.N; omega
 refine sp_of fun R H h => ?_
 obtain ⟨k, g, hR, hg, h0⟩ := xP_open h
 have hl := hg.1
 simp only [Rlt, hat] at hR
 obtain ⟨ha, hhit, hobj, hcode⟩ := hR
 refine xenq_pre' x P g σ t k now S T (by omega) h0 fun b1 H1 h1 => ?_
 refine wp_eq (rTE_k3_eq ..) ?_
 refine w_bind (eql_f (by omega)) ?_
 refine wp_eq (rTE_k5_eq ..) ?_
 with_reducible repeat refine gg ?_
 refine w_bind (eql_f (by omega)) ?_
 refine wp_eq (rTE_k11_eq ..) ?_
 with_reducible repeat refine gg ?_
 refine w_bind (eql_f (by omega)) ?_
 refine wp_eq (rTE_k18_eq ..) ?_
 with_reducible repeat refine gg ?_
 refine w_bind (eql_t (by omega)) ?_
 refine wp_eq (rTE_k25_eq ..) ?_
 with_reducible repeat refine gg ?_
 refine w_ld h1 end_nf rfl ?_
 refine w_ld h1 end_nf rfl ?_
 refine w_call h1 (XB_tab (p := P) (g := g) (σ := σ) (μ' := (σ.μ.acc t.who 2 (8, t.s, 0)).put (8, t.s, 0) 0) (by simp) (r16_unlock g.tb g.m σ.c.sh.toNat σ.c.sl.toNat σ.μ t.who t.s hN)) fun _ H2 h2 => ?_
 refine w_ld h2 end_nf rfl ?_
 cases hf : t.found
 ·rw [hf] at hhit
  rw [hhit]
  with_reducible repeat refine gg ?_
  rw [Bool.not_false]
  with_reducible repeat refine gg ?_
  exact w_ret (xQ_end (g := g) (k := k) (σ' := σ.mem ((σ.μ.acc t.who 2 (8, t.s, 0)).put (8, t.s, 0) 0)) (t' := { t with at' := 6 }) (by simp only [stepE, hat, hf]; rfl) (hcode hf) (partsXR_le0 (σ := σ) hg (by simp) rfl) h2.to)
 ·rw [hf] at hhit
  rw [hhit]
  with_reducible repeat refine gg ?_
  rw [Bool.not_true]
  with_reducible repeat refine gg ?_
  refine w_st h2 end_nf rfl rfl fun H3 h3 => ?_
  refine wp_eq (rTE_k2_eq ..) ?_
  exact w_ret (xQ_go (g := g) (σ' := σ.mem ((σ.μ.acc t.who 2 (8, t.s, 0)).put (8, t.s, 0) 0)) (t' := { t with at' := 6 }) (k := { k with a := 6 }) (by simp only [stepE, hat, hf]; rfl) (by simp [Rlt, hobj hf]) (partsXR_le0 (σ := σ) hg (by simp) rfl) h3.to)
theorem xstep_6 (S : SOk σ) (T : TOk σ t) (hat : t.at' = 6) : Sp n_rTE [vp x, vi now] (xP x P σ t) (fun _ : Unit => vb (stepE σ t now).2.2) (fun _ => xQ x P (stepE σ t now)) := by
 have hN : σ.μ.N < 1099511627000 := by have := S.N; omega
 refine sp_of fun R H h => ?_
 obtain ⟨k, g, hR, hg, h0⟩ := xP_open h
 have hl := hg.1
 simp only [Rlt, hat] at hR
 obtain ⟨ha, hobj⟩ := hR
 have ho := T.obj (.inl (by omega))
 have hob : k.obj < σ.obs.length := by omega
 obtain ⟨b, hb⟩ : ∃ b, g.rp[k.obj]? = some b := ⟨_, List.getElem?_eq_getElem (by omega)⟩
 refine xenq_pre' x P g σ t k now S T (by omega) h0 fun b1 H1 h1 => ?_
 refine ch6 (by omega) ?_
 refine w_bind (eql_t (by omega)) ?_
 refine wp_eq (rTE_k32_eq ..) ?_
 with_reducible repeat refine gg ?_
 refine w_ld h1 end_nf rfl ?_
 refine w_ld h1 end_nf rfl ?_
 refine w_call h1 (xparts_obj P g σ hl t.who k.obj hob S.N) fun _ H2 h2 => ?_
 refine w_st h2 end_nf rfl rfl fun H3 h3 => ?_
 refine wp_eq (rTE_k2_eq ..) ?_
 rw [hobj] at h3
 exact w_ret (xQ_go (g := g) (σ' := σ.mem (σ.μ.acc t.who 5 (13, (t.obj : Int), 0))) (t' := { t with at' := 7 }) (k := { k with a := 7, obj := t.obj }) (by simp only [stepE, hat]) (by simp [Rlt]) (partsXR_le0 (σ := σ) hg (by simp) rfl) h3.to)
theorem xstep_7 (S : SOk σ) (T : TOk σ t) (hat : t.at' = 7) : Sp n_rTE [vp x, vi now] (xP x P σ t) (fun _ : Unit => vb (stepE σ t now).2.2) (fun _ => xQ x P (stepE σ t now)) := by
 have hN : σ.μ.N < 1099511627000 := by have := S.N; omega
 refine sp_of fun R H h => ?_
 obtain ⟨k, g, hR, hg, h0⟩ := xP_open h
 have hl := hg.1
 simp only [Rlt, hat] at hR
 obtain ⟨ha, hobj⟩ := hR
 have ho := T.obj (.inl (by omega))
 have hob : k.obj < σ.obs.length := by omega
 obtain ⟨b, hb⟩ : ∃ b, g.rp[k.obj]? = some b := ⟨_, List.getElem?_eq_getElem (by omega)⟩
 refine xenq_pre' x P g σ t k now S T (by omega) h0 fun b1 H1 h1 => ?_
 refine ch6 (by omega) ?_
 refine w_bind (eql_f (by omega)) ?_
 refine wp_eq (rTE_k32_eq ..) ?_
 with_reducible repeat refine gg ?_
 refine w_bind (eql_t (by omega)) ?_
 refine wp_eq (rTE_k37_eq ..) ?_
 with_reducible repeat refine gg ?_
 refine w_st h1 end_nf rfl rfl fun H2 h2 => ?_
 refine w_call h2 (xt_word x P g σ t { k with a := 8 } S hl b hob hb) fun _ H3 h3 => ?_
 dsimp only at h3
 rw [hobj] at h3
 by_cases hw : wState (σ.μ.V (11, (t.obj : Int), 0)) = 2
 ·refine w_bind (eql_t (by rw [hobj]; exact hw)) ?_
  with_reducible repeat refine gg ?_
  refine w_st h3 end_nf rfl rfl fun H4 h4 => ?_
  refine wp_eq (rTE_k2_eq ..) ?_
  exact w_ret (xQ_go (g := g) (σ' := wordM σ t) (t' := { t with at' := 3, w := σ.μ.V (11, (t.obj : Int), 0) }) (k := { k with a := 3, obj := t.obj, w := σ.μ.V (11, (t.obj : Int), 0) }) (by simp only [stepE, hat]; rw [if_pos hw]) (by simp [Rlt]) (partsXR_le0 (σ := σ) hg (by simp) rfl) h4.to)
 ·refine w_bind (eql_f (by rw [hobj]; exact hw)) ?_
  with_reducible repeat refine gg ?_
  refine wp_eq (rTE_k2_eq ..) ?_
  exact w_ret (xQ_go (g := g) (σ' := wordM σ t) (t' := { t with at' := 8, w := σ.μ.V (11, (t.obj : Int), 0) }) (k := { k with a := 8, obj := t.obj, w := σ.μ.V (11, (t.obj : Int), 0) }) (by simp only [stepE, hat]; rw [if_neg hw]) (by simp [Rlt]) (partsXR_le0 (σ := σ) hg (by simp) rfl) h3.to)
theorem xstep_8 (S : SOk σ) (T : TOk σ t) (hat : t.at' = 8) : Sp n_rTE [vp x, vi now] (xP x P σ t) (fun _ : Unit => vb (stepE σ t now).2.2) (fun _ => xQ x P (stepE σ t now)) := by
 have hN : σ.μ.N < 1099511627000 := by have := S.N; omega
 refine sp_of fun R H h => ?_
 obtain ⟨k, g, hR, hg, h0⟩ := xP_open h
 have hl := hg.1
 simp only [Rlt, hat] at hR
 obtain ⟨ha, hobj, hw0⟩ := hR
 have ho := T.obj (.inl (by omega))
 have hob : k.obj < σ.obs.length := by omega
 obtain ⟨b, hb⟩ : ∃ b, g.rp[k.obj]? = some b := ⟨_, List.getElem?_eq_getElem (by omega)⟩
 refine xenq_pre' x P g σ t k now S T (by omega) h0 fun b1 H1 h1 => ?_
 refine ch8 (by omega) ?_
 refine w_bind (eql_t (by omega)) ?_
 refine wp_eq (rTE_k42_eq ..) ?_
 with_reducible repeat refine gg ?_
 refine w_call h1 (xt_ring x P g σ t k hl b hob hb) fun _ H2 h2 => ?_
 refine w_ad end_nf ?_
 refine w_Ld1 h2 rfl ?_
 refine w_eq1 h1 h2 (by rfl) ?_
 refine w_call h2 (XB_ring0 (p := P) (μ' := σ.μ.acc t.who 1 (12, (k.obj : Int), 0)) (by simp) hl hob hb (xring_head g.m k.obj b (cellsOf' σ k.obj) σ.μ t.who hN)) fun _ H3 h3 => ?_
 refine w_st h3 end_nf rfl rfl fun H4 h4 => ?_
 refine w_ld h4 end_nf rfl ?_
 refine w_call h4 (r01_parts k.w (by rw [hw0]; exact T.w)) fun _ H5 h5 => ?_
 refine w_bind (v := vu (wCount k.w)) rfl ?_
 refine w_bind (v := vi (wState k.w)) rfl ?_
 refine w_bind (v := vb (wRight k.w)) rfl ?_
 refine wp_eq (rTE_k43_eq ..) ?_
 refine w_call h5 (xt_ring x P g (σ.mem (σ.μ.acc t.who 1 (12, (k.obj : Int), 0))) t { k with h := σ.μ.V (12, (k.obj : Int), 0) } hl b hob hb) fun _ H6 h6 => ?_
 refine w_ad end_nf ?_
 refine w_Ld1 h6 rfl ?_
 refine w_eq1 h5 h6 (by rfl) ?_
 refine w_ad end_nf ?_
 refine w_Ld1 h6 rfl ?_
 refine w_eq1 h5 h6 (by rfl) ?_
 refine w_call h6 (XB_ring1 (p := P) (σ := σ.mem (σ.μ.acc t.who 1 (12, (k.obj : Int), 0))) hl hob hb (xring_full g.m k.obj b (cellsOf' σ k.obj) k.w (σ.μ.V (12, (k.obj : Int), 0)) (by rw [hw0]; exact T.w) (S.cells _ hob).2)) fun _ H7 h7 => ?_
 rw [hobj, hw0] at h7
 rw [hobj, hw0]
 cases hf : fullW t.w (σ.μ.V (12, (t.obj : Int), 0)) (cellsOf' σ t.obj).length
 ·with_reducible repeat refine gg ?_
  by_cases hw : wState t.w = 1
  ·refine w_bind (eql_t hw) ?_
   with_reducible repeat refine gg ?_
   refine w_st h7 end_nf rfl rfl fun H8 h8 => ?_
   refine wp_eq (rTE_k2_eq ..) ?_
   exact w_ret (xQ_go (g := g) (σ' := headM σ t) (t' := { t with at' := 9 }) (k := { k with a := 9, obj := t.obj, w := t.w, h := σ.μ.V (12, (t.obj : Int), 0) }) (by simp only [stepE, hat, fullT, hf]; rw [if_pos hw]; rfl) (by simp [Rlt]) (partsXR_le0 (σ := σ) hg (by simp) rfl) h8.to)
  ·refine w_bind (eql_f hw) ?_
   with_reducible repeat refine gg ?_
   refine w_st h7 end_nf rfl rfl fun H8 h8 => ?_
   refine wp_eq (rTE_k2_eq ..) ?_
   exact w_ret (xQ_go (g := g) (σ' := headM σ t) (t' := { t with at' := 12 }) (k := { k with a := 12, obj := t.obj, w := t.w, h := σ.μ.V (12, (t.obj : Int), 0) }) (by simp only [stepE, hat, fullT, hf]; rw [if_neg hw]; rfl) (by simp [Rlt]) (partsXR_le0 (σ := σ) hg (by simp) rfl) h8.to)
 ·with_reducible repeat refine gg ?_
  refine w_st h7 end_nf rfl rfl fun H8 h8 => ?_
  refine wp_eq (rTE_k2_eq ..) ?_
  exact w_ret (xQ_go (g := g) (σ' := headM σ t) (t' := { t with at' := 15 }) (k := { k with a := 15, obj := t.obj, w := t.w, h := σ.μ.V (12, (t.obj : Int), 0) }) (by simp only [stepE, hat, fullT, hf]; rfl) (by simp [Rlt]) (partsXR_le0 (σ := σ) hg (by simp) rfl) h8.to)
theorem xt_claim (g : XIds) (k : Xk) (S : SOk σ) (hg : partsXR g σ) (ha : k.a = 9 ∨ k.a = 13) (b : Nat) (ho : k.obj < σ.obs.length) (hb : g.rp[k.obj]? = some b) (hw0 : k.w < 18446744073709551616) :
  Sp n_r16_Task_claim [vp x, vi now] (xB x P t k * partsXB P g σ) (fun _ : Value => .tuple #[]) (fun v => if turned σ.μ k.obj k.w (wTurn k.w 0) = true then
   xB x P t { k with q := if k.a = 13 then 1 else 0, a := k.a + 1, code := 0 } * partsXB P { g with pv := v } ((σ.mem (σ.μ.turn t.who k.obj k.w (wTurn k.w 0))).note now t.who 0)
   else xB x P t { k with q := if k.a = 13 then 1 else 0, a := if k.a = 13 then 20 else 7 } * partsXB P g (σ.mem (σ.μ.turn t.who k.obj k.w (wTurn k.w 0)))) := by
 have hN : σ.μ.N < 1099511627000 := by have := S.N; omega
 have hl := hg.1
 have hturn : σ.μ.N ≤ (σ.μ.turn t.who k.obj k.w (wTurn k.w 0)).N := by cases wTurn k.w 0 <;> simp
 have hturn2 : (σ.μ.turn t.who k.obj k.w (wTurn k.w 0)).N ≤ σ.μ.N + 2 := by cases wTurn k.w 0 <;> simp
 refine sp_of fun R H h => ?_
 refine wp_of (fun r => r16_Task_claim_of _ _ H) ?_
 refine w_st h end_nf rfl rfl fun H1 h1 => ?_
 refine wp_eq (r16_Task_claim_k0_eq ..) ?_
 refine w_ld h1 end_nf rfl ?_
 have main : ∀ (q : Nat) (H2 : AH), q = (if k.a = 13 then 1 else 0) → Holds (xB x P t { k with q := q } * (partsXB P g σ * R)) H2 → wp (r16_Task_claim_k1 (vp x) (vi now) H2) fun v' H' => ∃ v : Value, v' = .tuple #[] ∧ Holds ((if turned σ.μ k.obj k.w (wTurn k.w 0) = true then
   xB x P t { k with q := if k.a = 13 then 1 else 0, a := k.a + 1, code := 0 } * partsXB P { g with pv := v } ((σ.mem (σ.μ.turn t.who k.obj k.w (wTurn k.w 0))).note now t.who 0)
   else xB x P t { k with q := if k.a = 13 then 1 else 0, a := if k.a = 13 then 20 else 7 } * partsXB P g (σ.mem (σ.μ.turn t.who k.obj k.w (wTurn k.w 0)))) * R) H' := by
  intro q H2 hq h2
  refine wp_eq (r16_Task_claim_k1_eq ..) ?_
  refine w_call h2 (xt_ring x P g σ t { k with q := q } hl b ho hb) fun _ H3 h3 => ?_
  refine w_ad end_nf ?_
  refine w_Ld1 h3 rfl ?_
  refine w_eq1 h2 h3 (by rfl) ?_
  refine w_ad end_nf ?_
  refine w_Ld1 h3 rfl ?_
  refine w_eq1 h2 h3 (by rfl) ?_
  refine w_call h3 (XB_ring0 (p := P) (μ' := σ.μ.turn t.who k.obj k.w (wTurn k.w 0)) hturn hl ho hb (xring_turn g.m k.obj b (cellsOf' σ k.obj) σ.μ t.who k.w 0 (by omega) hw0 hN)) fun _ H4 h4 => ?_
  cases hw : turned σ.μ k.obj k.w (wTurn k.w 0)
  ·with_reducible repeat refine gg ?_
   refine w_ld h4 end_nf rfl ?_
   rcases ha with ha | ha
   ·refine w_bind (eql_t (show ((k.a : Nat) : Int) = 9 by omega)) ?_
    with_reducible repeat refine gg ?_
    refine w_st h4 end_nf rfl rfl fun H5 h5 => ?_
    refine w_ret ⟨.bool true, rfl, ?_⟩
    rw [if_neg (by simp)]
    simp only [hq] at h5
    rw [if_neg (by omega)] at h5 ⊢
    rw [if_neg (by omega)]
    exact h5.to
   ·refine w_bind (eql_f (show ¬ ((k.a : Nat) : Int) = 9 by omega)) ?_
    with_reducible repeat refine gg ?_
    refine w_st h4 end_nf rfl rfl fun H5 h5 => ?_
    refine w_ret ⟨.bool true, rfl, ?_⟩
    rw [if_neg (by simp)]
    simp only [hq] at h5
    rw [if_pos ha] at h5 ⊢
    rw [if_pos ha]
    exact h5.to
  ·with_reducible repeat refine gg ?_
   refine w_call h4 (xt_note x P g (σ.mem (σ.μ.turn t.who k.obj k.w (wTurn k.w 0))) t { k with q := q } (partsXR_le0 (σ := σ) hg hturn rfl) now 0 (by have := S.N; show (σ.μ.turn t.who k.obj k.w (wTurn k.w 0)).N < _; omega) S.pts) fun v H5 h5 => ?_
   refine w_ld h5 end_nf rfl ?_
   refine w_bind (bin_add_i (a := ((k.a : Nat) : Int)) (b := 1) (by omega) (by omega)) ?_
   rw [show ((k.a : Nat) : Int) + 1 = ((k.a + 1 : Nat) : Int) from by omega]
   refine w_st h5 end_nf rfl rfl fun H6 h6 => ?_
   refine w_ret ⟨v, rfl, ?_⟩
   rw [if_pos rfl]
   simp only [hq] at h6
   exact h6.to
 rcases ha with ha | ha
 ·refine w_bind (eql_f (by omega)) ?_
  with_reducible repeat refine gg ?_
  exact main 0 H1 (by rw [if_neg (by omega)]) h1.to
 ·refine w_bind (eql_t (by omega)) ?_
  with_reducible repeat refine gg ?_
  refine w_st h1 end_nf rfl rfl fun H2 h2 => ?_
  exact main 1 H2 (by rw [if_pos ha]) h2.to
theorem xstep_9 (S : SOk σ) (T : TOk σ t) (hat : t.at' = 9) : Sp n_rTE [vp x, vi now] (xP x P σ t) (fun _ : Unit => vb (stepE σ t now).2.2) (fun _ => xQ x P (stepE σ t now)) := by
 have hN : σ.μ.N < 1099511627000 := by have := S.N; omega
 refine sp_of fun R H h => ?_
 obtain ⟨k, g, hR, hg, h0⟩ := xP_open h
 have hl := hg.1
 simp only [Rlt, hat] at hR
 obtain ⟨ha, hobj, hw0⟩ := hR
 have ho := T.obj (.inl (by omega))
 have hob : k.obj < σ.obs.length := by omega
 obtain ⟨b, hb⟩ : ∃ b, g.rp[k.obj]? = some b := ⟨_, List.getElem?_eq_getElem (by omega)⟩
 refine xenq_pre' x P g σ t k now S T (by omega) h0 fun b1 H1 h1 => ?_
 refine ch8 (by omega) ?_
 refine w_bind (eql_f (by omega)) ?_
 refine wp_eq (rTE_k42_eq ..) ?_
 with_reducible repeat refine gg ?_
 refine w_bind (eql_t (by omega)) ?_
 with_reducible repeat refine gg ?_
 refine wp_eq (rTE_k65_eq ..) ?_
 with_reducible repeat refine gg ?_
 have hturn : σ.μ.N ≤ (σ.μ.turn t.who k.obj k.w (wTurn k.w 0)).N := by cases wTurn k.w 0 <;> simp
 refine w_call h1 (xt_claim x P σ t now g k S hg (by omega) b hob hb (by rw [hw0]; exact T.w)) fun v H2 h2 => ?_
 refine wp_eq (rTE_k2_eq ..) ?_
 cases hw : turned σ.μ t.obj t.w (wTurn t.w 0)
 ·rw [if_neg (by rw [hobj, hw0, hw]; simp)] at h2
  rw [hobj, hw0, ha, if_neg (by omega), if_neg (by omega)] at h2
  exact w_ret (xQ_go (g := g) (σ' := σ.mem (σ.μ.turn t.who t.obj t.w (wTurn t.w 0))) (t' := { t with at' := 7 }) (k := { k with a := 7, obj := t.obj, w := t.w, q := 0 }) (by simp only [stepE, hat, hw]; rfl) (by simp [Rlt]) (partsXR_le0 (σ := σ) hg (by rw [hobj, hw0] at hturn; exact hturn) rfl) h2.to)
 ·rw [if_pos (by rw [hobj, hw0, hw])] at h2
  rw [hobj, hw0, ha, if_neg (by omega)] at h2
  exact w_ret (xQ_go (g := { g with pv := v }) (σ' := (σ.mem (σ.μ.turn t.who t.obj t.w (wTurn t.w 0))).note now t.who 0) (t' := { t with at' := 10, code := 0 }) (k := { k with a := 10, obj := t.obj, w := t.w, q := 0, code := 0 }) (by simp only [stepE, hat, hw]; rfl) (by simp [Rlt]) (partsXR_le (σ := σ) hg (by rw [hobj, hw0] at hturn; exact hturn) rfl) h2.to)
theorem xstep_13 (S : SOk σ) (T : TOk σ t) (hat : t.at' = 13) : Sp n_rTE [vp x, vi now] (xP x P σ t) (fun _ : Unit => vb (stepE σ t now).2.2) (fun _ => xQ x P (stepE σ t now)) := by
 have hN : σ.μ.N < 1099511627000 := by have := S.N; omega
 refine sp_of fun R H h => ?_
 obtain ⟨k, g, hR, hg, h0⟩ := xP_open h
 have hl := hg.1
 simp only [Rlt, hat] at hR
 obtain ⟨ha, hobj, hw0⟩ := hR
 have ho := T.obj (.inl (by omega))
 have hob : k.obj < σ.obs.length := by omega
 obtain ⟨b, hb⟩ : ∃ b, g.rp[k.obj]? = some b := ⟨_, List.getElem?_eq_getElem (by omega)⟩
 refine xenq_pre' x P g σ t k now S T (by omega) h0 fun b1 H1 h1 => ?_
 refine ch8 (by omega) ?_
 refine w_bind (eql_f (by omega)) ?_
 refine wp_eq (rTE_k42_eq ..) ?_
 with_reducible repeat refine gg ?_
 refine w_bind (eql_f (by omega)) ?_
 with_reducible repeat refine gg ?_
 refine w_bind (eql_t (by omega)) ?_
 refine wp_eq (rTE_k65_eq ..) ?_
 with_reducible repeat refine gg ?_
 have hturn : σ.μ.N ≤ (σ.μ.turn t.who k.obj k.w (wTurn k.w 0)).N := by cases wTurn k.w 0 <;> simp
 refine w_call h1 (xt_claim x P σ t now g k S hg (by omega) b hob hb (by rw [hw0]; exact T.w)) fun v H2 h2 => ?_
 refine wp_eq (rTE_k2_eq ..) ?_
 cases hw : turned σ.μ t.obj t.w (wTurn t.w 0)
 ·rw [if_neg (by rw [hobj, hw0, hw]; simp)] at h2
  rw [hobj, hw0, ha, if_pos rfl, if_pos rfl] at h2
  exact w_ret (xQ_go (g := g) (σ' := σ.mem (σ.μ.turn t.who t.obj t.w (wTurn t.w 0))) (t' := { t with at' := 20 }) (k := { k with a := 20, obj := t.obj, w := t.w, q := 1 }) (by simp only [stepE, hat, hw]; rfl) (by simp [Rlt]) (partsXR_le0 (σ := σ) hg (by rw [hobj, hw0] at hturn; exact hturn) rfl) h2.to)
 ·rw [if_pos (by rw [hobj, hw0, hw])] at h2
  rw [hobj, hw0, ha, if_pos rfl] at h2
  exact w_ret (xQ_go (g := { g with pv := v }) (σ' := (σ.mem (σ.μ.turn t.who t.obj t.w (wTurn t.w 0))).note now t.who 0) (t' := { t with at' := 14, code := 0 }) (k := { k with a := 14, obj := t.obj, w := t.w, q := 1, code := 0 }) (by simp only [stepE, hat, hw]; rfl) (by simp [Rlt]) (partsXR_le (σ := σ) hg (by rw [hobj, hw0] at hturn; exact hturn) rfl) h2.to)
theorem xstep_10 (S : SOk σ) (T : TOk σ t) (hat : t.at' = 10) : Sp n_rTE [vp x, vi now] (xP x P σ t) (fun _ : Unit => vb (stepE σ t now).2.2) (fun _ => xQ x P (stepE σ t now)) := by
 have hN : σ.μ.N < 1099511627000 := by have := S.N; omega
 refine sp_of fun R H h => ?_
 obtain ⟨k, g, hR, hg, h0⟩ := xP_open h
 have hl := hg.1
 simp only [Rlt, hat] at hR
 obtain ⟨ha, hobj, hw0, hq, hcode⟩ := hR
 have ho := T.obj (.inl (by omega))
 have hob : k.obj < σ.obs.length := by omega
 obtain ⟨b, hb⟩ : ∃ b, g.rp[k.obj]? = some b := ⟨_, List.getElem?_eq_getElem (by omega)⟩
 refine xenq_pre' x P g σ t k now S T (by omega) h0 fun b1 H1 h1 => ?_
 refine ch10 (by omega) ?_
 refine w_bind (eql_t (by omega)) ?_
 with_reducible repeat refine gg ?_
 refine wp_eq (rTE_k67_eq ..) ?_
 with_reducible repeat refine gg ?_
 refine w_call h1 (xt_ring x P g σ t k hl b hob hb) fun _ H2 h2 => ?_
 refine w_ad end_nf ?_
 refine w_Ld1 h2 rfl ?_
 refine w_eq1 h1 h2 (by rfl) ?_
 refine w_call h2 (xt_count x P t k (by rw [hw0]; exact T.w)) fun _ H3 h3 => ?_
 refine w_eq1 h3 h2 (by rfl) ?_
 refine w_LdN h3 ?_
 refine w_eqN h1 h3 rfl ?_
 refine w_eqN h2 h3 rfl ?_
 refine w_call h3 (XB_ring (p := P) (μ' := σ.μ.acc t.who 6 (16, (k.obj : Int), ((wCount k.w % (cellsOf' σ k.obj).length : Nat) : Int))) (by simp) hl hob hb (xring_put g.m k.obj b (cellsOf' σ k.obj) σ.μ t.who (wCount k.w) ⟨t.x.flow, t.x.a, t.x.b⟩ (S.cells _ hob) hN)) fun _ H4 h4 => ?_
 refine w_st h4 end_nf rfl rfl fun H5 h5 => ?_
 refine w_ld h5 end_nf rfl ?_
 refine w_bind (eql_f (by omega)) ?_
 with_reducible repeat refine gg ?_
 refine wp_eq (rTE_k2_eq ..) ?_
 have e1 := layM_eq σ t
 rw [hobj, hw0, ← e1] at h5
 exact w_ret (xQ_go (g := g) (σ' := layM σ t) (t' := { t with at' := 11 }) (k := { k with a := 11, obj := t.obj, w := t.w }) (by simp only [stepE, hat]) (by simp [Rlt, hcode]) (partsXR_le0 (σ := σ) hg (by simp) (layM_len σ t)) h5.to)
theorem xstep_14 (S : SOk σ) (T : TOk σ t) (hat : t.at' = 14) : Sp n_rTE [vp x, vi now] (xP x P σ t) (fun _ : Unit => vb (stepE σ t now).2.2) (fun _ => xQ x P (stepE σ t now)) := by
 have hN : σ.μ.N < 1099511627000 := by have := S.N; omega
 refine sp_of fun R H h => ?_
 obtain ⟨k, g, hR, hg, h0⟩ := xP_open h
 have hl := hg.1
 simp only [Rlt, hat] at hR
 obtain ⟨ha, hobj, hw0, hq, hcode⟩ := hR
 have ho := T.obj (.inl (by omega))
 have hob : k.obj < σ.obs.length := by omega
 obtain ⟨b, hb⟩ : ∃ b, g.rp[k.obj]? = some b := ⟨_, List.getElem?_eq_getElem (by omega)⟩
 refine xenq_pre' x P g σ t k now S T (by omega) h0 fun b1 H1 h1 => ?_
 refine ch10 (by omega) ?_
 refine w_bind (eql_f (by omega)) ?_
 with_reducible repeat refine gg ?_
 refine w_bind (eql_t (by omega)) ?_
 refine wp_eq (rTE_k67_eq ..) ?_
 with_reducible repeat refine gg ?_
 refine w_call h1 (xt_ring x P g σ t k hl b hob hb) fun _ H2 h2 => ?_
 refine w_ad end_nf ?_
 refine w_Ld1 h2 rfl ?_
 refine w_eq1 h1 h2 (by rfl) ?_
 refine w_call h2 (xt_count x P t k (by rw [hw0]; exact T.w)) fun _ H3 h3 => ?_
 refine w_eq1 h3 h2 (by rfl) ?_
 refine w_LdN h3 ?_
 refine w_eqN h1 h3 rfl ?_
 refine w_eqN h2 h3 rfl ?_
 refine w_call h3 (XB_ring (p := P) (μ' := σ.μ.acc t.who 6 (16, (k.obj : Int), ((wCount k.w % (cellsOf' σ k.obj).length : Nat) : Int))) (by simp) hl hob hb (xring_put g.m k.obj b (cellsOf' σ k.obj) σ.μ t.who (wCount k.w) ⟨t.x.flow, t.x.a, t.x.b⟩ (S.cells _ hob) hN)) fun _ H4 h4 => ?_
 refine w_st h4 end_nf rfl rfl fun H5 h5 => ?_
 refine w_ld h5 end_nf rfl ?_
 refine w_bind (eql_t (by omega)) ?_
 with_reducible repeat refine gg ?_
 refine w_st h5 end_nf rfl rfl fun H6 h6 => ?_
 refine wp_eq (rTE_k2_eq ..) ?_
 have e1 := layM_eq σ t
 rw [hobj, hw0, ← e1] at h6
 exact w_ret (xQ_go (g := g) (σ' := layM σ t) (t' := { t with at' := 21 }) (k := { k with a := 21, obj := t.obj, w := t.w }) (by simp only [stepE, hat]) (by simp [Rlt, hcode]) (partsXR_le0 (σ := σ) hg (by simp) (layM_len σ t)) h6.to)
theorem xstep_11 (S : SOk σ) (T : TOk σ t) (hat : t.at' = 11) : Sp n_rTE [vp x, vi now] (xP x P σ t) (fun _ : Unit => vb (stepE σ t now).2.2) (fun _ => xQ x P (stepE σ t now)) := by
 have hN : σ.μ.N < 1099511627000 := by have := S.N; omega
 refine sp_of fun R H h => ?_
 obtain ⟨k, g, hR, hg, h0⟩ := xP_open h
 have hl := hg.1
 simp only [Rlt, hat] at hR
 obtain ⟨ha, hobj, hw0, hcode⟩ := hR
 have ho := T.obj (.inl (by omega))
 have hob : k.obj < σ.obs.length := by omega
 obtain ⟨b, hb⟩ : ∃ b, g.rp[k.obj]? = some b := ⟨_, List.getElem?_eq_getElem (by omega)⟩
 refine xenq_pre' x P g σ t k now S T (by omega) h0 fun b1 H1 h1 => ?_
 refine ch11 (by omega) ?_
 refine w_bind (eql_t (by omega)) ?_
 refine wp_eq (rTE_k78_eq ..) ?_
 with_reducible repeat refine gg ?_
 refine w_call h1 (xt_ring x P g σ t k hl b hob hb) fun _ H2 h2 => ?_
 refine w_ad end_nf ?_
 refine w_Ld1 h2 rfl ?_
 refine w_eq1 h1 h2 (by rfl) ?_
 refine w_call h2 (xt_count x P t k (by rw [hw0]; exact T.w)) fun _ H3 h3 => ?_
 refine w_eq1 h3 h2 (by rfl) ?_
 have hwc := wCount_le k.w
 refine w_call h3 (XB_ring0 (p := P) (μ' := (σ.μ.acc t.who 2 (15, (k.obj : Int), ((wCount k.w % (cellsOf' σ k.obj).length : Nat) : Int))).put (15, (k.obj : Int), ((wCount k.w % (cellsOf' σ k.obj).length : Nat) : Int)) (wCount k.w + 1)) (by simp) hl hob hb (xring_show g.m k.obj b (cellsOf' σ k.obj) σ.μ t.who (wCount k.w) (by omega) (S.cells _ hob) hN)) fun _ H4 h4 => ?_
 rw [hobj, hw0] at h4
 exact w_ret (xQ_end (g := g) (k := k) (σ' := showM σ t) (t' := t) (by simp only [stepE, hat]) hcode (partsXR_le0 (σ := σ) hg (by simp) rfl) h4.to)
theorem xstep_12 (S : SOk σ) (T : TOk σ t) (hat : t.at' = 12) : Sp n_rTE [vp x, vi now] (xP x P σ t) (fun _ : Unit => vb (stepE σ t now).2.2) (fun _ => xQ x P (stepE σ t now)) := by
 have hN : σ.μ.N < 1099511627000 := by have := S.N; omega
 refine sp_of fun R H h => ?_
 obtain ⟨k, g, hR, hg, h0⟩ := xP_open h
 have hl := hg.1
 simp only [Rlt, hat] at hR
 obtain ⟨ha, hobj, hw0⟩ := hR
 have ho := T.obj (.inl (by omega))
 have hob : k.obj < σ.obs.length := by omega
 obtain ⟨b, hb⟩ : ∃ b, g.rp[k.obj]? = some b := ⟨_, List.getElem?_eq_getElem (by omega)⟩
 refine xenq_pre' x P g σ t k now S T (by omega) h0 fun b1 H1 h1 => ?_
 refine ch11 (by omega) ?_
 refine w_bind (eql_f (by omega)) ?_
 refine wp_eq (rTE_k78_eq ..) ?_
 with_reducible repeat refine gg ?_
 refine w_bind (eql_t (by omega)) ?_
 refine wp_eq (rTE_k84_eq ..) ?_
 with_reducible repeat refine gg ?_
 refine w_ld h1 end_nf rfl ?_
 refine w_ld h1 end_nf rfl ?_
 refine w_call h1 (XB_inb (p := P) (g := g) (σ := σ) (μ' := σ.μ.cnt t.who (3, 0, 0) 4294967296) (L := σ.μ.N) (by simp) (xinbox_begin g.ib g.m σ.c.sh σ.nx σ.μ.N σ.μ t.who hN)) fun _ H2 h2 => ?_
 refine w_st h2 end_nf rfl rfl fun H3 h3 => ?_
 refine wp_eq (rTE_k2_eq ..) ?_
 exact w_ret (xQ_go (g := g) (σ' := σ.mem (σ.μ.cnt t.who (3, 0, 0) 4294967296)) (t' := { t with at' := 13 }) (k := { k with a := 13 }) (by simp only [stepE, hat]) (by simp [Rlt, hobj, hw0]) (partsXR_le0 (σ := σ) hg (by simp) rfl) h3.to)
theorem xstep_15 (S : SOk σ) (T : TOk σ t) (hat : t.at' = 15) : Sp n_rTE [vp x, vi now] (xP x P σ t) (fun _ : Unit => vb (stepE σ t now).2.2) (fun _ => xQ x P (stepE σ t now)) := by
 have hN : σ.μ.N < 1099511627000 := by have := S.N; omega
 refine sp_of fun R H h => ?_
 obtain ⟨k, g, hR, hg, h0⟩ := xP_open h
 have hl := hg.1
 simp only [Rlt, hat] at hR
 obtain ⟨ha, hobj⟩ := hR
 have ho := T.obj (.inl (by omega))
 have hob : k.obj < σ.obs.length := by omega
 obtain ⟨b, hb⟩ : ∃ b, g.rp[k.obj]? = some b := ⟨_, List.getElem?_eq_getElem (by omega)⟩
 refine xenq_pre' x P g σ t k now S T (by omega) h0 fun b1 H1 h1 => ?_
 refine ch15 (by omega) ?_
 refine w_bind (eql_t (by omega)) ?_
 with_reducible repeat refine gg ?_
 refine wp_eq (rTE_k89_eq ..) ?_
 with_reducible repeat refine gg ?_
 refine w_tail ?_
 refine wp_of (fun r => rTf_of _ _ H1) ?_
 refine wp_eq (rTf_k0_eq ..) ?_
 refine w_ld h1 end_nf rfl ?_
 refine wp_eq (rTf_k2_eq ..) ?_
 refine w_bind (eql_t (by omega)) ?_
 with_reducible repeat refine gg ?_
 refine w_ld h1 end_nf rfl ?_
 refine w_ld h1 end_nf rfl ?_
 refine w_call h1 (xparts_seq P g σ t.who S.N) fun _ H2 h2 => ?_
 refine w_st h2 end_nf rfl rfl fun H3 h3 => ?_
 refine w_st h3 end_nf rfl rfl fun H4 h4 => ?_
 refine w_ld h4 end_nf rfl ?_
 refine w_bind (rem_l 2 (by omega)) ?_
 by_cases hw : σ.μ.V (2, 0, 0) % 2 = 1
 ·refine w_bind (eql_t (show ((σ.μ.V (2, 0, 0) % 2 : Nat) : Int) = 1 by omega)) ?_
  with_reducible repeat refine gg ?_
  refine w_st h4 end_nf rfl rfl fun H5 h5 => ?_
  refine wp_eq (rTf_k1_eq ..) ?_
  exact w_ret (xQ_go (g := g) (σ' := seqM σ t) (t' := { t with at' := 7, q := σ.μ.V (2, 0, 0) }) (k := { k with a := 7, q := σ.μ.V (2, 0, 0) }) (by simp only [stepE, hat]; rw [if_pos hw]) (by simp [Rlt, hobj]) (partsXR_le0 (σ := σ) hg (by simp) rfl) h5.to)
 ·refine w_bind (eql_f (show ¬ ((σ.μ.V (2, 0, 0) % 2 : Nat) : Int) = 1 by omega)) ?_
  with_reducible repeat refine gg ?_
  refine wp_eq (rTf_k1_eq ..) ?_
  exact w_ret (xQ_go (g := g) (σ' := seqM σ t) (t' := { t with at' := 16, q := σ.μ.V (2, 0, 0) }) (k := { k with a := 16, q := σ.μ.V (2, 0, 0) }) (by simp only [stepE, hat]; rw [if_neg hw]) (by simp [Rlt, hobj]) (partsXR_le0 (σ := σ) hg (by simp) rfl) h4.to)
theorem xstep_16 (S : SOk σ) (T : TOk σ t) (hat : t.at' = 16) : Sp n_rTE [vp x, vi now] (xP x P σ t) (fun _ : Unit => vb (stepE σ t now).2.2) (fun _ => xQ x P (stepE σ t now)) := by
 have hN : σ.μ.N < 1099511627000 := by have := S.N; omega
 refine sp_of fun R H h => ?_
 obtain ⟨k, g, hR, hg, h0⟩ := xP_open h
 have hl := hg.1
 simp only [Rlt, hat] at hR
 obtain ⟨ha, hobj, hq⟩ := hR
 have ho := T.obj (.inl (by omega))
 have hob : k.obj < σ.obs.length := by omega
 obtain ⟨b, hb⟩ : ∃ b, g.rp[k.obj]? = some b := ⟨_, List.getElem?_eq_getElem (by omega)⟩
 refine xenq_pre' x P g σ t k now S T (by omega) h0 fun b1 H1 h1 => ?_
 refine ch15 (by omega) ?_
 refine w_bind (eql_f (by omega)) ?_
 with_reducible repeat refine gg ?_
 refine w_bind (eql_t (by omega)) ?_
 with_reducible repeat refine gg ?_
 refine wp_eq (rTE_k89_eq ..) ?_
 with_reducible repeat refine gg ?_
 refine w_tail ?_
 refine wp_of (fun r => rTf_of _ _ H1) ?_
 refine wp_eq (rTf_k0_eq ..) ?_
 refine w_ld h1 end_nf rfl ?_
 refine wp_eq (rTf_k2_eq ..) ?_
 refine w_bind (eql_f (by omega)) ?_
 with_reducible repeat refine gg ?_
 refine w_bind (eql_t (by omega)) ?_
 with_reducible repeat refine gg ?_
 refine w_st h1 end_nf rfl rfl fun H2 h2 => ?_
 refine w_call h2 (xt_word x P g σ t { k with a := 17 } S hl b hob hb) fun _ H3 h3 => ?_
 dsimp only at h3
 rw [hobj] at h3
 by_cases hw : wState (σ.μ.V (11, (t.obj : Int), 0)) = 2
 ·refine w_bind (eql_t (by rw [hobj]; exact hw)) ?_
  with_reducible repeat refine gg ?_
  refine w_st h3 end_nf rfl rfl fun H4 h4 => ?_
  refine wp_eq (rTf_k1_eq ..) ?_
  exact w_ret (xQ_go (g := g) (σ' := wordM σ t) (t' := { t with at' := 3, w := σ.μ.V (11, (t.obj : Int), 0) }) (k := { k with a := 3, obj := t.obj, w := σ.μ.V (11, (t.obj : Int), 0) }) (by simp only [stepE, hat]; rw [if_pos hw]) (by simp [Rlt]) (partsXR_le0 (σ := σ) hg (by simp) rfl) h4.to)
 ·refine w_bind (eql_f (by rw [hobj]; exact hw)) ?_
  with_reducible repeat refine gg ?_
  refine wp_eq (rTf_k1_eq ..) ?_
  exact w_ret (xQ_go (g := g) (σ' := wordM σ t) (t' := { t with at' := 17, w := σ.μ.V (11, (t.obj : Int), 0) }) (k := { k with a := 17, obj := t.obj, w := σ.μ.V (11, (t.obj : Int), 0) }) (by simp only [stepE, hat]; rw [if_neg hw]) (by simp [Rlt, hq]) (partsXR_le0 (σ := σ) hg (by simp) rfl) h3.to)
theorem xstep_17 (S : SOk σ) (T : TOk σ t) (hat : t.at' = 17) : Sp n_rTE [vp x, vi now] (xP x P σ t) (fun _ : Unit => vb (stepE σ t now).2.2) (fun _ => xQ x P (stepE σ t now)) := by
 have hN : σ.μ.N < 1099511627000 := by have := S.N; omega
 refine sp_of fun R H h => ?_
 obtain ⟨k, g, hR, hg, h0⟩ := xP_open h
 have hl := hg.1
 simp only [Rlt, hat] at hR
 obtain ⟨ha, hobj, hw0, hq⟩ := hR
 have ho := T.obj (.inl (by omega))
 have hob : k.obj < σ.obs.length := by omega
 obtain ⟨b, hb⟩ : ∃ b, g.rp[k.obj]? = some b := ⟨_, List.getElem?_eq_getElem (by omega)⟩
 refine xenq_pre' x P g σ t k now S T (by omega) h0 fun b1 H1 h1 => ?_
 refine ch15 (by omega) ?_
 refine w_bind (eql_f (by omega)) ?_
 with_reducible repeat refine gg ?_
 refine w_bind (eql_f (by omega)) ?_
 with_reducible repeat refine gg ?_
 refine w_bind (eql_t (by omega)) ?_
 with_reducible repeat refine gg ?_
 refine wp_eq (rTE_k89_eq ..) ?_
 with_reducible repeat refine gg ?_
 refine w_tail ?_
 refine wp_of (fun r => rTf_of _ _ H1) ?_
 refine wp_eq (rTf_k0_eq ..) ?_
 refine w_ld h1 end_nf rfl ?_
 refine wp_eq (rTf_k2_eq ..) ?_
 refine w_bind (eql_f (by omega)) ?_
 with_reducible repeat refine gg ?_
 refine w_bind (eql_f (by omega)) ?_
 with_reducible repeat refine gg ?_
 refine w_bind (eql_t (by omega)) ?_
 with_reducible repeat refine gg ?_
 refine w_call h1 (xt_ring x P g σ t k hl b hob hb) fun _ H2 h2 => ?_
 refine w_ad end_nf ?_
 refine w_Ld1 h2 rfl ?_
 refine w_eq1 h1 h2 (by rfl) ?_
 refine w_call h2 (XB_ring0 (p := P) (μ' := σ.μ.acc t.who 1 (12, (k.obj : Int), 0)) (by simp) hl hob hb (xring_head g.m k.obj b (cellsOf' σ k.obj) σ.μ t.who hN)) fun _ H3 h3 => ?_
 refine w_st h3 end_nf rfl rfl fun H4 h4 => ?_
 refine w_st h4 end_nf rfl rfl fun H5 h5 => ?_
 refine w_st h5 end_nf rfl rfl fun H6 h6 => ?_
 refine w_call h6 (xt_ring x P g (σ.mem (σ.μ.acc t.who 1 (12, (k.obj : Int), 0))) t { k with h := σ.μ.V (12, (k.obj : Int), 0), mark := now, a := 18 } hl b hob hb) fun _ H7 h7 => ?_
 refine w_ad end_nf ?_
 refine w_Ld1 h7 rfl ?_
 refine w_eq1 h6 h7 (by rfl) ?_
 refine w_ad end_nf ?_
 refine w_Ld1 h7 rfl ?_
 refine w_eq1 h6 h7 (by rfl) ?_
 refine w_call h7 (XB_ring1 (p := P) (σ := σ.mem (σ.μ.acc t.who 1 (12, (k.obj : Int), 0))) hl hob hb (xring_full g.m k.obj b (cellsOf' σ k.obj) k.w (σ.μ.V (12, (k.obj : Int), 0)) (by rw [hw0]; exact T.w) (S.cells _ hob).2)) fun _ H8 h8 => ?_
 rw [hobj, hw0] at h8
 rw [hobj, hw0]
 cases hf : fullW t.w (σ.μ.V (12, (t.obj : Int), 0)) (cellsOf' σ t.obj).length
 ·with_reducible repeat refine gg ?_
  rw [Bool.not_false]
  with_reducible repeat refine gg ?_
  refine w_st h8 end_nf rfl rfl fun H9 h9 => ?_
  refine wp_eq (rTf_k1_eq ..) ?_
  exact w_ret (xQ_go (g := g) (σ' := headM σ t) (t' := { t with at' := 7 }) (k := { k with a := 7, obj := t.obj, w := t.w, h := σ.μ.V (12, (t.obj : Int), 0), mark := now }) (by simp only [stepE, hat, fullT, hf]; rfl) (by simp [Rlt]) (partsXR_le0 (σ := σ) hg (by simp) rfl) h9.to)
 ·with_reducible repeat refine gg ?_
  rw [Bool.not_true]
  with_reducible repeat refine gg ?_
  refine wp_eq (rTf_k1_eq ..) ?_
  exact w_ret (xQ_go (g := g) (σ' := headM σ t) (t' := { t with at' := 18, mark := now }) (k := { k with a := 18, obj := t.obj, w := t.w, h := σ.μ.V (12, (t.obj : Int), 0), mark := now }) (by simp only [stepE, hat, fullT, hf]; rfl) (by simp [Rlt, hq]) (partsXR_le0 (σ := σ) hg (by simp) rfl) h8.to)
theorem xstep_18 (S : SOk σ) (T : TOk σ t) (hat : t.at' = 18) : Sp n_rTE [vp x, vi now] (xP x P σ t) (fun _ : Unit => vb (stepE σ t now).2.2) (fun _ => xQ x P (stepE σ t now)) := by
 have hN : σ.μ.N < 1099511627000 := by have := S.N; omega
 refine sp_of fun R H h => ?_
 obtain ⟨k, g, hR, hg, h0⟩ := xP_open h
 have hl := hg.1
 simp only [Rlt, hat] at hR
 obtain ⟨ha, hobj, hq, hm⟩ := hR
 have ho := T.obj (.inl (by omega))
 have hob : k.obj < σ.obs.length := by omega
 obtain ⟨b, hb⟩ : ∃ b, g.rp[k.obj]? = some b := ⟨_, List.getElem?_eq_getElem (by omega)⟩
 refine xenq_pre' x P g σ t k now S T (by omega) h0 fun b1 H1 h1 => ?_
 refine ch15 (by omega) ?_
 refine w_bind (eql_f (by omega)) ?_
 with_reducible repeat refine gg ?_
 refine w_bind (eql_f (by omega)) ?_
 with_reducible repeat refine gg ?_
 refine w_bind (eql_f (by omega)) ?_
 with_reducible repeat refine gg ?_
 refine w_bind (eql_t (by omega)) ?_
 refine wp_eq (rTE_k89_eq ..) ?_
 with_reducible repeat refine gg ?_
 refine w_tail ?_
 refine wp_of (fun r => rTf_of _ _ H1) ?_
 refine wp_eq (rTf_k0_eq ..) ?_
 refine w_ld h1 end_nf rfl ?_
 refine wp_eq (rTf_k2_eq ..) ?_
 refine w_bind (eql_f (by omega)) ?_
 with_reducible repeat refine gg ?_
 refine w_bind (eql_f (by omega)) ?_
 with_reducible repeat refine gg ?_
 refine w_bind (eql_f (by omega)) ?_
 with_reducible repeat refine gg ?_
 refine w_bind (eql_t (by omega)) ?_
 with_reducible repeat refine gg ?_
 refine w_ld h1 end_nf rfl ?_
 refine w_ld h1 end_nf rfl ?_
 refine w_call h1 (xparts_seq P g σ t.who S.N) fun _ H2 h2 => ?_
 refine w_ad end_nf ?_
 refine w_Ld1 h2 rfl ?_
 refine w_eq1 h1 h2 (by rfl) ?_
 by_cases hw : σ.μ.V (2, 0, 0) = t.q
 ·refine w_bind (eql_t (show ((σ.μ.V (2, 0, 0) : Nat) : Int) = (k.q : Int) by omega)) ?_
  with_reducible repeat refine gg ?_
  refine w_ld h2 end_nf rfl ?_
  rw [hm]
  refine w_call h2 (xt_note x P g (seqM σ t) t k (partsXR_le0 (σ := σ) hg (by simp) rfl) t.mark 9 (by have := S.N; show σ.μ.N + 2 < _; omega) S.pts) fun v H3 h3 => ?_
  exact w_ret (xQ_end (g := { g with pv := v }) (k := { k with code := 9 }) (σ' := (seqM σ t).note t.mark t.who 9) (t' := { t with code := 9 }) (by simp only [stepE, hat]; rw [if_pos hw]) rfl (partsXR_le (σ := σ) hg (by simp) rfl) h3.to)
 ·refine w_bind (eql_f (show ¬ ((σ.μ.V (2, 0, 0) : Nat) : Int) = (k.q : Int) by omega)) ?_
  with_reducible repeat refine gg ?_
  refine w_st h2 end_nf rfl rfl fun H3 h3 => ?_
  refine wp_eq (rTf_k1_eq ..) ?_
  exact w_ret (xQ_go (g := g) (σ' := seqM σ t) (t' := { t with at' := 7 }) (k := { k with a := 7 }) (by simp only [stepE, hat]; rw [if_neg hw]) (by simp [Rlt, hobj]) (partsXR_le0 (σ := σ) hg (by simp) rfl) h3.to)
theorem xstep_20 (S : SOk σ) (T : TOk σ t) (hat : t.at' = 20) : Sp n_rTE [vp x, vi now] (xP x P σ t) (fun _ : Unit => vb (stepE σ t now).2.2) (fun _ => xQ x P (stepE σ t now)) := by
 have hN : σ.μ.N < 1099511627000 := by have := S.N; omega
 refine sp_of fun R H h => ?_
 obtain ⟨k, g, hR, hg, h0⟩ := xP_open h
 have hl := hg.1
 simp only [Rlt, hat] at hR
 obtain ⟨ha, hobj⟩ := hR
 have ho := T.obj (.inl (by omega))
 have hob : k.obj < σ.obs.length := by omega
 obtain ⟨b, hb⟩ : ∃ b, g.rp[k.obj]? = some b := ⟨_, List.getElem?_eq_getElem (by omega)⟩
 refine xenq_pre' x P g σ t k now S T (by omega) h0 fun b1 H1 h1 => ?_
 refine chw (by omega) ?_
 refine w_tail ?_
 refine wp_of (fun r => rTw_of _ _ H1) ?_
 refine w_ld h1 end_nf rfl ?_
 refine wp_eq (rTw_k0_eq ..) ?_
 refine w_ld h1 end_nf rfl ?_
 refine wp_eq (rTw_k2_eq ..) ?_
 refine w_bind (eql_t (by omega)) ?_
 with_reducible repeat refine gg ?_
 refine w_ld h1 end_nf rfl ?_
 refine w_ld h1 end_nf rfl ?_
 refine w_call h1 (XB_inb (p := P) (g := g) (σ := σ) (μ' := σ.μ.cnt t.who (3, 0, 0) 1) (L := σ.μ.N) (by simp) (xinbox_end g.ib g.m σ.c.sh σ.nx σ.μ.N σ.μ t.who hN)) fun _ H2 h2 => ?_
 refine w_st h2 end_nf rfl rfl fun H3 h3 => ?_
 refine wp_eq (rTw_k1_eq ..) ?_
 exact w_ret (xQ_go (g := g) (σ' := σ.mem (σ.μ.cnt t.who (3, 0, 0) 1)) (t' := { t with at' := 7 }) (k := { k with a := 7 }) (by simp only [stepE, hat]) (by simp [Rlt, hobj]) (partsXR_le0 (σ := σ) hg (by simp) rfl) h3.to)
theorem xstep_21 (S : SOk σ) (T : TOk σ t) (hat : t.at' = 21) : Sp n_rTE [vp x, vi now] (xP x P σ t) (fun _ : Unit => vb (stepE σ t now).2.2) (fun _ => xQ x P (stepE σ t now)) := by
 have hN : σ.μ.N < 1099511627000 := by have := S.N; omega
 refine sp_of fun R H h => ?_
 obtain ⟨k, g, hR, hg, h0⟩ := xP_open h
 have hl := hg.1
 simp only [Rlt, hat] at hR
 obtain ⟨ha, hobj, hw0, hcode⟩ := hR
 have ho := T.obj (.inl (by omega))
 have hob : k.obj < σ.obs.length := by omega
 obtain ⟨b, hb⟩ : ∃ b, g.rp[k.obj]? = some b := ⟨_, List.getElem?_eq_getElem (by omega)⟩
 refine xenq_pre' x P g σ t k now S T (by omega) h0 fun b1 H1 h1 => ?_
 refine chw (by omega) ?_
 refine w_tail ?_
 refine wp_of (fun r => rTw_of _ _ H1) ?_
 refine w_ld h1 end_nf rfl ?_
 refine wp_eq (rTw_k0_eq ..) ?_
 refine w_ld h1 end_nf rfl ?_
 refine wp_eq (rTw_k2_eq ..) ?_
 refine w_bind (eql_f (by omega)) ?_
 with_reducible repeat refine gg ?_
 refine w_bind (eql_t (by omega)) ?_
 with_reducible repeat refine gg ?_
 refine w_call h1 (xt_ring x P g σ t k hl b hob hb) fun _ H2 h2 => ?_
 refine w_ad end_nf ?_
 refine w_Ld1 h2 rfl ?_
 refine w_eq1 h1 h2 (by rfl) ?_
 refine w_call h2 (xt_count x P t k (by rw [hw0]; exact T.w)) fun _ H3 h3 => ?_
 refine w_eq1 h3 h2 (by rfl) ?_
 have hwc := wCount_le k.w
 refine w_call h3 (XB_ring0 (p := P) (μ' := (σ.μ.acc t.who 2 (15, (k.obj : Int), ((wCount k.w % (cellsOf' σ k.obj).length : Nat) : Int))).put (15, (k.obj : Int), ((wCount k.w % (cellsOf' σ k.obj).length : Nat) : Int)) (wCount k.w + 1)) (by simp) hl hob hb (xring_show g.m k.obj b (cellsOf' σ k.obj) σ.μ t.who (wCount k.w) (by omega) (S.cells _ hob) hN)) fun _ H4 h4 => ?_
 refine w_st h4 end_nf rfl rfl fun H5 h5 => ?_
 refine wp_eq (rTw_k1_eq ..) ?_
 rw [hobj, hw0] at h5
 exact w_ret (xQ_go (g := g) (σ' := showM σ t) (t' := { t with at' := 22 }) (k := { k with a := 22, obj := t.obj, w := t.w }) (by simp only [stepE, hat]) (by simp [Rlt, hcode]) (partsXR_le0 (σ := σ) hg (by simp) rfl) h5.to)
theorem xstep_22 (S : SOk σ) (T : TOk σ t) (hat : t.at' = 22) : Sp n_rTE [vp x, vi now] (xP x P σ t) (fun _ : Unit => vb (stepE σ t now).2.2) (fun _ => xQ x P (stepE σ t now)) := by
 have hN : σ.μ.N < 1099511627000 := by have := S.N; omega
 refine sp_of fun R H h => ?_
 obtain ⟨k, g, hR, hg, h0⟩ := xP_open h
 have hl := hg.1
 simp only [Rlt, hat] at hR
 obtain ⟨ha, hobj, hcode⟩ := hR
 have ho := T.obj (.inl (by omega))
 have hob : k.obj < σ.obs.length := by omega
 obtain ⟨b, hb⟩ : ∃ b, g.rp[k.obj]? = some b := ⟨_, List.getElem?_eq_getElem (by omega)⟩
 refine xenq_pre' x P g σ t k now S T (by omega) h0 fun b1 H1 h1 => ?_
 refine chw (by omega) ?_
 refine w_tail ?_
 refine wp_of (fun r => rTw_of _ _ H1) ?_
 refine w_ld h1 end_nf rfl ?_
 refine wp_eq (rTw_k0_eq ..) ?_
 refine w_ld h1 end_nf rfl ?_
 refine wp_eq (rTw_k2_eq ..) ?_
 refine w_bind (eql_f (by omega)) ?_
 with_reducible repeat refine gg ?_
 refine w_bind (eql_f (by omega)) ?_
 with_reducible repeat refine gg ?_
 refine w_bind (eql_t (by omega)) ?_
 with_reducible repeat refine gg ?_
 refine w_ld h1 end_nf rfl ?_
 refine w_ld h1 end_nf rfl ?_
 refine w_call h1 (XB_inb (p := P) (g := g) (σ := σ) (μ' := σ.μ.acc t.who 1 (9, t.s, 0)) (L := σ.μ.N) (by simp) (xinbox_top g.ib g.m σ.c.sh σ.nx σ.μ.N σ.μ t.who t.s hN)) fun _ H2 h2 => ?_
 refine w_st h2 end_nf rfl rfl fun H3 h3 => ?_
 refine w_st h3 end_nf rfl rfl fun H4 h4 => ?_
 refine wp_eq (rTw_k1_eq ..) ?_
 exact w_ret (xQ_go (g := g) (σ' := σ.mem (σ.μ.acc t.who 1 (9, t.s, 0))) (t' := { t with at' := 23, top := σ.μ.V (9, t.s, 0) }) (k := { k with a := 23, top := σ.μ.V (9, t.s, 0) }) (by simp only [stepE, hat]) (by simp [Rlt, hobj, hcode]) (partsXR_le0 (σ := σ) hg (by simp) rfl) h4.to)
theorem xstep_23 (S : SOk σ) (T : TOk σ t) (hat : t.at' = 23) : Sp n_rTE [vp x, vi now] (xP x P σ t) (fun _ : Unit => vb (stepE σ t now).2.2) (fun _ => xQ x P (stepE σ t now)) := by
 have hN : σ.μ.N < 1099511627000 := by have := S.N; omega
 refine sp_of fun R H h => ?_
 obtain ⟨k, g, hR, hg, h0⟩ := xP_open h
 have hl := hg.1
 simp only [Rlt, hat] at hR
 obtain ⟨ha, hobj, htop, hcode⟩ := hR
 have ho := T.obj (.inl (by omega))
 have hob : k.obj < σ.obs.length := by omega
 obtain ⟨b, hb⟩ : ∃ b, g.rp[k.obj]? = some b := ⟨_, List.getElem?_eq_getElem (by omega)⟩
 refine xenq_pre' x P g σ t k now S T (by omega) h0 fun b1 H1 h1 => ?_
 refine chw (by omega) ?_
 refine w_tail ?_
 refine wp_of (fun r => rTw_of _ _ H1) ?_
 refine w_ld h1 end_nf rfl ?_
 refine wp_eq (rTw_k0_eq ..) ?_
 refine w_ld h1 end_nf rfl ?_
 refine wp_eq (rTw_k2_eq ..) ?_
 refine w_bind (eql_f (by omega)) ?_
 with_reducible repeat refine gg ?_
 refine w_bind (eql_f (by omega)) ?_
 with_reducible repeat refine gg ?_
 refine w_bind (eql_f (by omega)) ?_
 with_reducible repeat refine gg ?_
 refine w_bind (eql_t (by omega)) ?_
 with_reducible repeat refine gg ?_
 refine w_ld h1 end_nf rfl ?_
 refine w_ld h1 end_nf rfl ?_
 refine w_ld h1 end_nf rfl ?_
 refine w_ld h1 end_nf rfl ?_
 refine w_call h1 (XB_inb (p := P) (g := g) (σ := σ) (μ' := σ.μ.acc t.who 6 (14, (k.obj : Int), 0)) (L := σ.μ.N + 1) (by simp) (xinbox_link g.ib g.m σ.c.sh σ.nx σ.μ.N σ.μ t.who k.obj k.top (by have := S.N; omega) hN)) fun _ H2 h2 => ?_
 refine w_st h2 end_nf rfl rfl fun H3 h3 => ?_
 refine wp_eq (rTw_k1_eq ..) ?_
 rw [hobj, htop] at h3
 exact w_ret (xQ_go (g := g) (σ' := { σ with μ := σ.μ.acc t.who 6 (14, (t.obj : Int), 0), nx := fun k => if k = (t.obj : Int) then some t.top else σ.nx k }) (t' := { t with at' := 24 }) (k := { k with a := 24, obj := t.obj, top := t.top }) (by simp only [stepE, hat]) (by simp [Rlt, hcode]) (partsXR_le0 (σ := σ) hg (by simp) rfl) h3.to)
theorem xstep_24 (S : SOk σ) (T : TOk σ t) (hat : t.at' = 24) : Sp n_rTE [vp x, vi now] (xP x P σ t) (fun _ : Unit => vb (stepE σ t now).2.2) (fun _ => xQ x P (stepE σ t now)) := by
 have hN : σ.μ.N < 1099511627000 := by have := S.N; omega
 refine sp_of fun R H h => ?_
 obtain ⟨k, g, hR, hg, h0⟩ := xP_open h
 have hl := hg.1
 simp only [Rlt, hat] at hR
 obtain ⟨ha, hobj, htop, hcode⟩ := hR
 have ho := T.obj (.inl (by omega))
 have hob : k.obj < σ.obs.length := by omega
 obtain ⟨b, hb⟩ : ∃ b, g.rp[k.obj]? = some b := ⟨_, List.getElem?_eq_getElem (by omega)⟩
 refine xenq_pre' x P g σ t k now S T (by omega) h0 fun b1 H1 h1 => ?_
 refine chw (by omega) ?_
 refine w_tail ?_
 refine wp_of (fun r => rTw_of _ _ H1) ?_
 refine w_ld h1 end_nf rfl ?_
 refine wp_eq (rTw_k0_eq ..) ?_
 refine w_ld h1 end_nf rfl ?_
 refine wp_eq (rTw_k2_eq ..) ?_
 refine w_bind (eql_f (by omega)) ?_
 with_reducible repeat refine gg ?_
 refine w_bind (eql_f (by omega)) ?_
 with_reducible repeat refine gg ?_
 refine w_bind (eql_f (by omega)) ?_
 with_reducible repeat refine gg ?_
 refine w_bind (eql_f (by omega)) ?_
 with_reducible repeat refine gg ?_
 refine w_bind (eql_t (by omega)) ?_
 with_reducible repeat refine gg ?_
 refine w_st h1 end_nf rfl rfl fun H2 h2 => ?_
 refine w_ld h2 end_nf rfl ?_
 refine w_ld h2 end_nf rfl ?_
 refine w_ld h2 end_nf rfl ?_
 refine w_ld h2 end_nf rfl ?_
 refine w_call h2 (XB_inb (p := P) (g := g) (σ := σ) (μ' := σ.μ.swp t.who (9, t.s, 0) k.top (k.obj + 1)) (L := σ.μ.N) (by simp) (xinbox_push g.ib g.m σ.c.sh σ.nx σ.μ.N σ.μ t.who t.s k.top k.obj (by have := S.obs; omega) hN)) fun _ H3 h3 => ?_
 rw [hobj, htop] at h3
 rw [htop]
 by_cases hw : σ.μ.V (9, t.s, 0) = t.top
 ·rw [decide_eq_true hw]
  with_reducible repeat refine gg ?_
  refine w_st h3 end_nf rfl rfl fun H4 h4 => ?_
  refine wp_eq (rTw_k1_eq ..) ?_
  exact w_ret (xQ_go (g := g) (σ' := σ.mem (σ.μ.swp t.who (9, t.s, 0) t.top (t.obj + 1))) (t' := { t with at' := 25 }) (k := { k with a := 25, obj := t.obj, top := t.top }) (by simp only [stepE, hat]; rw [if_pos hw]) (by simp [Rlt, hcode]) (partsXR_le0 (σ := σ) hg (by simp) rfl) h4.to)
 ·rw [decide_eq_false hw]
  with_reducible repeat refine gg ?_
  refine wp_eq (rTw_k1_eq ..) ?_
  exact w_ret (xQ_go (g := g) (σ' := σ.mem (σ.μ.swp t.who (9, t.s, 0) t.top (t.obj + 1))) (t' := { t with at' := 22 }) (k := { k with a := 22, obj := t.obj, top := t.top }) (by simp only [stepE, hat]; rw [if_neg hw]) (by simp [Rlt, hcode]) (partsXR_le0 (σ := σ) hg (by simp) rfl) h3.to)
theorem xstep_25 (S : SOk σ) (T : TOk σ t) (hat : t.at' = 25) : Sp n_rTE [vp x, vi now] (xP x P σ t) (fun _ : Unit => vb (stepE σ t now).2.2) (fun _ => xQ x P (stepE σ t now)) := by
 have hN : σ.μ.N < 1099511627000 := by have := S.N; omega
 refine sp_of fun R H h => ?_
 obtain ⟨k, g, hR, hg, h0⟩ := xP_open h
 have hl := hg.1
 simp only [Rlt, hat] at hR
 obtain ⟨ha, hcode⟩ := hR
 refine xenq_pre' x P g σ t k now S T (by omega) h0 fun b1 H1 h1 => ?_
 refine chw (by omega) ?_
 refine w_tail ?_
 refine wp_of (fun r => rTw_of _ _ H1) ?_
 refine w_ld h1 end_nf rfl ?_
 refine wp_eq (rTw_k0_eq ..) ?_
 refine w_ld h1 end_nf rfl ?_
 refine wp_eq (rTw_k2_eq ..) ?_
 refine w_bind (eql_f (by omega)) ?_
 with_reducible repeat refine gg ?_
 refine w_bind (eql_f (by omega)) ?_
 with_reducible repeat refine gg ?_
 refine w_bind (eql_f (by omega)) ?_
 with_reducible repeat refine gg ?_
 refine w_bind (eql_f (by omega)) ?_
 with_reducible repeat refine gg ?_
 refine w_bind (eql_f (by omega)) ?_
 with_reducible repeat refine gg ?_
 refine w_bind (eql_t (by omega)) ?_
 with_reducible repeat refine gg ?_
 refine w_ld h1 end_nf rfl ?_
 refine w_ld h1 end_nf rfl ?_
 refine w_call h1 (XB_inb (p := P) (g := g) (σ := σ) (μ' := σ.μ.cnt t.who (3, 0, 0) 1) (L := σ.μ.N) (by simp) (xinbox_end g.ib g.m σ.c.sh σ.nx σ.μ.N σ.μ t.who hN)) fun _ H2 h2 => ?_
 exact w_ret (xQ_end (g := g) (k := k) (σ' := σ.mem (σ.μ.cnt t.who (3, 0, 0) 1)) (t' := t) (by simp only [stepE, hat]) hcode (partsXR_le0 (σ := σ) hg (by simp) rfl) h2.to)
theorem xscan2 {R : SP} {H1 : AH} {b1 : Nat} {sv : Value} (g : XIds) (k : Xk) (S : SOk σ) (T : TOk σ t) (hg : partsXR g σ) (ha : k.a = 2) (hI : k.I = t.i) (hh : k.hit = false) (hi : (t.i : Int) < σ.c.sl)
  (h1 : Holds (blk b1 (.cells false [vi t.x.flow, vi t.x.a, vi t.x.b]) * (xB x P t k * (partsXB P g σ * R))) H1) :
  wp (rTE_k5 (vp x) (vi now) (vb false) (vp P) sv (vp b1) (vi k.a) (vb true) H1) fun v' H' => ∃ y : Unit, v' = vb (scanE σ t).2.2 ∧ Holds (xQ x P (scanE σ t) * R) H' := by
 refine wp_eq (rTE_k5_eq ..) ?_
 with_reducible repeat refine gg ?_
 refine w_call h1 (xt_scan x P g σ t k S T hI hi) fun k2 H2 h2 => ?_
 rw [sep_assoc, Holds.pu] at h2
 obtain ⟨hX, h2⟩ := h2
 obtain ⟨x1, x2, x3, x4, x5, x6, x7, x8⟩ := hX
 refine w_bind (v := vb (scanT σ t).found) rfl ?_
 refine w_bind (v := vb (!(scanT σ t).found && lastT σ (scanT σ t))) rfl ?_
 cases hf : (scanT σ t).found
 ·obtain ⟨y1, y2⟩ := x8 hf
  with_reducible repeat refine gg ?_
  rw [Bool.not_false, Bool.true_and]
  cases hla : lastT σ (scanT σ t)
  ·with_reducible repeat refine gg ?_
   refine wp_eq (rTE_k2_eq ..) ?_
   exact w_ret (xQ_go (g := g) (k := k2) (σ' := scanM σ t) (t' := { scanT σ t with at' := 2 }) (by simp only [scanE, hf, hla]; rfl) (by simp [Rlt, x1, ha, y1, y2, hh, hI, scanT]) (partsXR_le0 (σ := σ) hg (by simp) rfl) (show Holds (xB x P t k2 * (partsXB P g (scanM σ t) * R)) H2 from h2.to))
  ·with_reducible repeat refine gg ?_
   refine w_st h2 end_nf rfl rfl fun H3 h3 => ?_
   refine wp_eq (rTE_k2_eq ..) ?_
   exact w_ret (xQ_go (g := g) (k := { k2 with a := 3 }) (σ' := scanM σ t) (t' := { scanT σ t with at' := 3 }) (by simp only [scanE, hf, hla]; rfl) (by simp [Rlt]) (partsXR_le0 (σ := σ) hg (by simp) rfl) (show Holds (xB x P t { k2 with a := 3 } * (partsXB P g (scanM σ t) * R)) H3 from h3.to))
 ·obtain ⟨y1, y2⟩ := x7 hf
  with_reducible repeat refine gg ?_
  refine w_st h2 end_nf rfl rfl fun H3 h3 => ?_
  refine wp_eq (rTE_k2_eq ..) ?_
  exact w_ret (xQ_go (g := g) (k := { k2 with a := 6 }) (σ' := scanM σ t) (t' := { scanT σ t with at' := 6 }) (by simp only [scanE, hf]; rfl) (by simp [Rlt, y2]) (partsXR_le0 (σ := σ) hg (by simp) rfl) (show Holds (xB x P t { k2 with a := 6 } * (partsXB P g (scanM σ t) * R)) H3 from h3.to))
theorem xstep_2 (S : SOk σ) (T : TOk σ t) (hat : t.at' = 2) : Sp n_rTE [vp x, vi now] (xP x P σ t) (fun _ : Unit => vb (stepE σ t now).2.2) (fun _ => xQ x P (stepE σ t now)) := by
 have hN : σ.μ.N < 1099511627000 := by have := S.N; omega
 refine sp_of fun R H h => ?_
 obtain ⟨k, g, hR, hg, h0⟩ := xP_open h
 have hl := hg.1
 simp only [Rlt, hat] at hR
 obtain ⟨ha, hI, hh⟩ := hR
 have hi := T.i (by omega) (by omega)
 have hs : stepE σ t now = scanE σ t := by simp only [stepE, hat, scanE]
 rw [hs]
 refine xenq_pre' x P g σ t k now S T (by omega) h0 fun b1 H1 h1 => ?_
 refine wp_eq (rTE_k3_eq ..) ?_
 refine w_bind (eql_t (by omega)) ?_
 exact xscan2 x P σ t now g k S T hg ha hI hh hi h1
theorem xstep_4 (S : SOk σ) (T : TOk σ t) (hat : t.at' = 4) : Sp n_rTE [vp x, vi now] (xP x P σ t) (fun _ : Unit => vb (stepE σ t now).2.2) (fun _ => xQ x P (stepE σ t now)) := by
 have hN : σ.μ.N < 1099511627000 := by have := S.N; omega
 refine sp_of fun R H h => ?_
 obtain ⟨k, g, hR, hg, h0⟩ := xP_open h
 have hl := hg.1
 simp only [Rlt, hat] at hR
 obtain ⟨ha, hI, hh⟩ := hR
 have hi := T.i (by omega) (by omega)
 refine xenq_pre' x P g σ t k now S T (by omega) h0 fun b1 H1 h1 => ?_
 refine wp_eq (rTE_k3_eq ..) ?_
 refine w_bind (eql_f (by omega)) ?_
 refine wp_eq (rTE_k5_eq ..) ?_
 with_reducible repeat refine gg ?_
 refine w_bind (eql_f (by omega)) ?_
 refine wp_eq (rTE_k11_eq ..) ?_
 with_reducible repeat refine gg ?_
 refine w_bind (eql_t (by omega)) ?_
 refine wp_eq (rTE_k18_eq ..) ?_
 with_reducible repeat refine gg ?_
 refine w_call h1 (xt_scan x P g σ t k S T hI hi) fun k2 H2 h2 => ?_
 rw [sep_assoc, Holds.pu] at h2
 obtain ⟨hX, h2⟩ := h2
 obtain ⟨x1, x2, x3, x4, x5, x6, x7, x8⟩ := hX
 refine w_bind (v := vb (scanT σ t).found) rfl ?_
 refine w_bind (v := vb (!(scanT σ t).found && lastT σ (scanT σ t))) rfl ?_
 cases hf : (scanT σ t).found
 ·obtain ⟨y1, y2⟩ := x8 hf
  with_reducible repeat refine gg ?_
  rw [Bool.not_false, Bool.true_and]
  cases hla : lastT σ (scanT σ t)
  ·with_reducible repeat refine gg ?_
   refine wp_eq (rTE_k2_eq ..) ?_
   exact w_ret (xQ_go (g := g) (k := k2) (σ' := scanM σ t) (t' := scanT σ t) (by simp only [stepE, hat, hf, hla]; rfl) (by simp [Rlt, x1, ha, y1, y2, hh, hI, scanT, hat]) (partsXR_le0 (σ := σ) hg (by simp) rfl) (show Holds (xB x P t k2 * (partsXB P g (scanM σ t) * R)) H2 from h2.to))
  ·with_reducible repeat refine gg ?_
   refine w_call h2 (xt_note x P g (scanM σ t) t k2 (partsXR_le0 (σ := σ) hg (by simp) rfl) now 5 (by have := S.N; show σ.μ.N + 2 < _; omega) S.pts) fun v H3 h3 => ?_
   refine w_st h3 end_nf rfl rfl fun H4 h4 => ?_
   refine wp_eq (rTE_k2_eq ..) ?_
   exact w_ret (xQ_go (g := { g with pv := v }) (k := { k2 with a := 5, code := 5 }) (σ' := (scanM σ t).note now t.who 5) (t' := { scanT σ t with at' := 5, code := 5 }) (by simp only [stepE, hat, hf, hla]; rfl) (by simp [Rlt, hf, y1, hh]) (partsXR_le (σ := σ) hg (by simp) rfl) (show Holds (xB x P t { k2 with a := 5, code := 5 } * (partsXB P { g with pv := v } ((scanM σ t).note now t.who 5) * R)) H4 from h4.to))
 ·obtain ⟨y1, y2⟩ := x7 hf
  with_reducible repeat refine gg ?_
  refine w_st h2 end_nf rfl rfl fun H3 h3 => ?_
  refine wp_eq (rTE_k2_eq ..) ?_
  exact w_ret (xQ_go (g := g) (k := { k2 with a := 5 }) (σ' := scanM σ t) (t' := { scanT σ t with at' := 5 }) (by simp only [stepE, hat, hf]; rfl) (by simp [Rlt, hf, y1, y2]) (partsXR_le0 (σ := σ) hg (by simp) rfl) (show Holds (xB x P t { k2 with a := 5 } * (partsXB P g (scanM σ t) * R)) H3 from h3.to))
theorem xstep_0 (S : SOk σ) (T : TOk σ t) (hat : t.at' = 0) : Sp n_rTE [vp x, vi now] (xP x P σ t) (fun _ : Unit => vb (stepE σ t now).2.2) (fun _ => xQ x P (stepE σ t now)) := by
 have hN : σ.μ.N < 1099511627000 := by have := S.N; omega
 refine sp_of fun R H h => ?_
 obtain ⟨k, g, hR, hg, h0⟩ := xP_open h
 have hl := hg.1
 simp only [Rlt, hat] at hR
 obtain ⟨ha, hI, hh⟩ := hR
 have hi := T.i (by omega) (by omega)
 refine xenq_pre x P g σ t k now S T h0 fun b1 H1 h1 => ?_
 refine wp_eq (rTE_k0_eq ..) ?_
 refine w_ld h1 end_nf rfl ?_
 refine w_bind (eql_t (by omega)) ?_
 with_reducible repeat refine gg ?_
 have fin : ∀ code, refusal t.x = some code → wp ((FF n_r16_Task_note [vp x, vi now, vi code] H1).bind fun r125 => some ((vb true), r125.2)) fun v' H' => ∃ y : Unit, v' = vb (stepE σ t now).2.2 ∧ Holds (xQ x P (stepE σ t now) * R) H' := by
  intro code hx
  refine w_call h1 (xt_note x P g σ t k hg now code (by have := S.N; omega) S.pts) fun v H2 h2 => ?_
  exact w_ret (xQ_end (g := { g with pv := v }) (k := { k with code := code }) (σ' := σ.note now t.who code) (t' := { t with code := code }) (by simp only [stepE, hat, hx]) rfl (partsXR_le (σ := σ) hg (Nat.le_refl _) rfl) h2.to)
 refine w_ld h1 (end_n (end_f (end_f end_nil))) rfl ?_
 by_cases ha1 : t.x.a < 1
 ·refine w_bind (lss_t ha1) ?_
  with_reducible repeat refine gg ?_
  exact fin 3 (by rw [refusal, if_pos (.inl ha1)])
 ·refine w_bind (lss_f ha1) ?_
  with_reducible repeat refine gg ?_
  refine w_ld h1 (end_n (end_f (end_f end_nil))) rfl ?_
  with_reducible repeat refine gg ?_
  by_cases ha2 : 65536 < t.x.a
  ·refine w_bind (gtr_t ha2) ?_
   with_reducible repeat refine gg ?_
   exact fin 3 (by rw [refusal, if_pos (.inr ha2)])
  ·refine w_bind (gtr_f ha2) ?_
   with_reducible repeat refine gg ?_
   refine w_ld h1 (end_n (end_f (end_f end_nil))) rfl ?_
   by_cases hf : t.x.flow < 0
   ·refine w_bind (lss_t hf) ?_
    with_reducible repeat refine gg ?_
    exact fin 5 (by rw [refusal, if_neg (by omega), if_pos (.inl hf)])
   ·refine w_bind (lss_f hf) ?_
    with_reducible repeat refine gg ?_
    refine w_ld h1 (end_n (end_f (end_f end_nil))) rfl ?_
    with_reducible repeat refine gg ?_
    by_cases hf2 : 1048576 < t.x.flow
    ·refine w_bind (gtr_t hf2) ?_
     with_reducible repeat refine gg ?_
     exact fin 5 (by rw [refusal, if_neg (by omega), if_pos (.inr hf2)])
    ·refine w_bind (gtr_f hf2) ?_
     with_reducible repeat refine gg ?_
     have hx : refusal t.x = none := by rw [refusal, if_neg (by omega), if_neg (by omega)]
     have hs : stepE σ t now = scanE σ t := by simp only [stepE, hat, hx, scanE]
     rw [hs]
     refine w_st h1 end_nf rfl rfl fun H2 h2 => ?_
     refine wp_eq (rTE_k1_eq ..) ?_
     refine w_ld h2 end_nf rfl ?_
     refine wp_eq (rTE_k3_eq ..) ?_
     refine w_bind (eql_t (by omega)) ?_
     exact xscan2 x P σ t now g { k with a := 2 } S T hg rfl hI hh hi h2.to
theorem xenq_step (S : SOk σ) (T : TOk σ t) : Sp n_rTE [vp x, vi now] (xP x P σ t) (fun _ : Unit => vb (stepE σ t now).2.2) (fun _ => xQ x P (stepE σ t now)) := by
 rcases T.ats with hat | hat | hat | hat | hat | hat | hat | hat | hat | hat | hat | hat | hat | hat | hat | hat | hat | hat | hat | hat | hat | hat | hat | hat
 ·exact xstep_0 x P σ t now S T hat
 ·exact xstep_2 x P σ t now S T hat
 ·exact xstep_3 x P σ t now S T hat
 ·exact xstep_4 x P σ t now S T hat
 ·exact xstep_5 x P σ t now S T hat
 ·exact xstep_6 x P σ t now S T hat
 ·exact xstep_7 x P σ t now S T hat
 ·exact xstep_8 x P σ t now S T hat
 ·exact xstep_9 x P σ t now S T hat
 ·exact xstep_10 x P σ t now S T hat
 ·exact xstep_11 x P σ t now S T hat
 ·exact xstep_12 x P σ t now S T hat
 ·exact xstep_13 x P σ t now S T hat
 ·exact xstep_14 x P σ t now S T hat
 ·exact xstep_15 x P σ t now S T hat
 ·exact xstep_16 x P σ t now S T hat
 ·exact xstep_17 x P σ t now S T hat
 ·exact xstep_18 x P σ t now S T hat
 ·exact xstep_20 x P σ t now S T hat
 ·exact xstep_21 x P σ t now S T hat
 ·exact xstep_22 x P σ t now S T hat
 ·exact xstep_23 x P σ t now S T hat
 ·exact xstep_24 x P σ t now S T hat
 ·exact xstep_25 x P σ t now S T hat
end
theorem clone_events (s : Value) (l : List Ev) (hl : l.length ≤ 1000000) : Sp n_sCe [s] (ts 5 Ev.cells s l) (fun v : Value => v) (fun v => ts 5 Ev.cells v l * ts 5 Ev.cells s l) := by
 refine sp_of fun R H h => ?_
 refine wp_of (fun r => sCe_of _ H) ?_
 rcases ts_open h (enc := Ev.cells) (s := s) with ⟨rfl, rfl, h1⟩ | ⟨b, rfl, h1⟩
 ·refine w_bind (v := vb true) rfl ?_
  with_reducible repeat refine gg ?_
  exact w_ret ⟨_, rfl, by have := ts_nil 5 Ev.cells (ts_nil 5 Ev.cells h1); exact this.to⟩
 ·refine w_bind (v := vb false) rfl ?_
  with_reducible repeat refine gg ?_
  refine w_mkR (cs := []) h rfl fun b2 H2 h2 => ?_
  have h3 := ts_back (e := 5) (enc := Ev.cells) (l := []) h2
  refine w_rapp (s := vs b2 0 5) (l := ([] : List Ev)) (m := l) h3 ?_ (by omega) fun v H4 h4 => ?_
  ·unfold room; simp; omega
  rw [List.nil_append] at h4
  exact w_ret ⟨v, rfl, h4.to⟩
theorem mem_events (m : Nat) (μ : Mu) (hE : μ.E.length ≤ 1000000) : Sp n_mem_Mem_Events [vp m] (memP m μ) (fun v : Value => v) (fun v => ts 5 Ev.cells v μ.E * memP m μ) := by
 refine sp_of fun R H h => ?_
 obtain ⟨⟨c, l, al, es, ck⟩, h1⟩ := Holds.ex.1 h
 rw [sep_assoc, Holds.pu] at h1
 obtain ⟨hp, h1⟩ := h1
 dsimp only at h1
 have h2 : Holds (blk m (.cells false [.map (some c), l]) * (blk c (.map es ck) * ts 5 Ev.cells l μ.E) * R) H := h1
 refine wp_of (fun r => mem_Mem_Events_of _ H) ?_
 refine w_ld h2 end_nf rfl ?_
 refine w_call h2 (clone_events l μ.E hE) fun v H3 h3 => ?_
 refine w_ret ⟨v, rfl, ?_⟩
 have h4 : Holds (memP m μ * (ts 5 Ev.cells v μ.E * R)) H3 := by
  refine Holds.ex.2 ⟨(c, l, al, es, ck), ?_⟩
  rw [sep_assoc, Holds.pu]
  refine ⟨hp, ?_⟩
  have h5 : Holds (blk m (.cells false [.map (some c), l]) * (blk c (.map es ck) * ts 5 Ev.cells l μ.E) * (ts 5 Ev.cells v μ.E * R)) H3 := h3.to
  exact h5
 exact h4.to
theorem event_same (x : Ev) : Sp n_help_Plainapi_Event_1 [.agg (Ev.cells x).toArray, .agg (Ev.cells x).toArray] emp (fun _ : Unit => vb true) (fun _ => emp) := by
 refine sp_of fun R H h => ?_
 refine wp_of (fun r => help_Plainapi_Event_1_of _ _ H) ?_
 refine w_newC (l := [vi x.who, vi x.kind, vi x.loc.1, vi x.loc.2.1, vi x.loc.2.2]) h fun b1 H1 h1 => ?_
 refine w_newC (l := [vi x.who, vi x.kind, vi x.loc.1, vi x.loc.2.1, vi x.loc.2.2]) h1 fun b2 H2 h2 => ?_
 refine w_LdN h2 ?_
 refine w_LdN h2 ?_
 refine w_bind (v := vb true) ?_ ?_
 ·show (pEq (.flat 5) (.agg #[vi x.who, vi x.kind, vi x.loc.1, vi x.loc.2.1, vi x.loc.2.2]) (.agg #[vi x.who, vi x.kind, vi x.loc.1, vi x.loc.2.1, vi x.loc.2.2])).map (fun b => Value.bool b) = _
  simp only [pEq]
  rw [if_pos ⟨rfl, rfl⟩]
  simp [eqCells]
 exact w_ret ⟨(), rfl, h2.to⟩
theorem events_same {P : SP} (s1 s2 : Value) (l : List Ev) (hl : l.length ≤ 1000000) [r1 : Rd P s1 5 Ev.cells l] [r2 : Rd P s2 5 Ev.cells l] {H : AH} (h : Holds P H) {k : Value × AH → OV} {Q : Value → AH → Prop} (hk : ∀ H', Holds P H' → wp (k (vb true, H')) Q) :
  wp ((FF n_help_Plainapi_Event [s1, s2] H).bind k) Q := by
 have same : Sp n_hS_Event [s1, s2, .func (.func n_help_Plainapi_Event_1) #[] #[]] P (fun _ : Unit => vb true) (fun _ => P) := by
  refine sp_of fun R H h => ?_
  refine wp_of (fun r => hS_Event_of _ _ _ H) ?_
  refine w_rlen (s := s1) (l := l) h ?_
  refine w_rlen (s := s2) (l := l) h ?_
  refine w_bind (neq_f rfl) ?_
  with_reducible repeat refine gg ?_
  refine wp_eq (hS_Event_k0_eq ..) ?_
  refine wp_eq (hS_Event_k2_eq ..) ?_
  have loop : ∀ (d i : Nat) (H : AH), i + d = l.length → Holds (P * R) H → wp (hS_Event_k4 s1 s2 (.func (.func n_help_Plainapi_Event_1) #[] #[]) (vb false) (vi (i : Int)) H) fun v' H' => ∃ x : Unit, v' = vb true ∧ Holds (P * R) H' := by
   intro d
   induction d with
   | zero =>
    intro i H hi hh
    refine wp_eq (hS_Event_k4_eq ..) ?_
    refine w_rlen (s := s1) (l := l) hh ?_
    refine w_bind (lss_f (by omega)) ?_
    with_reducible repeat refine gg ?_
    refine wp_eq (hS_Event_e3_0_eq ..) ?_
    refine wp_eq (hS_Event_k1_eq ..) ?_
    exact w_ret ⟨(), rfl, hh⟩
   | succ d ih =>
    intro i H hi hh
    have hil : i < l.length := by omega
    refine wp_eq (hS_Event_k4_eq ..) ?_
    refine w_rlen (s := s1) (l := l) hh ?_
    refine w_bind (lss_t (by omega)) ?_
    with_reducible repeat refine gg ?_
    refine wp_eq (hS_Event_k5_eq ..) ?_
    refine w_rldN (s := s1) (l := l) hh hil ?_
    refine w_rldN (s := s2) (l := l) hh hil ?_
    refine wp_eq (show ((pCallee (.func (.func n_help_Plainapi_Event_1) #[] #[]) [.agg (Ev.cells l[i]).toArray, .agg (Ev.cells l[i]).toArray]).bind fun c => FF c.1 c.2 H).bind _ = (FF n_help_Plainapi_Event_1 [.agg (Ev.cells l[i]).toArray, .agg (Ev.cells l[i]).toArray] H).bind _ from rfl) ?_
    refine w_call hh (event_same l[i]) fun _ H1 h1 => ?_
    with_reducible repeat refine gg ?_
    rw [Bool.not_true]
    with_reducible repeat refine gg ?_
    refine wp_eq (hS_Event_k6_eq ..) ?_
    refine w_bind (bin_add_i (by omega) (by omega)) ?_
    exact ih (i + 1) H1 (by omega) h1.to
  exact loop l.length 0 H (by omega) h
 obtain ⟨x, H', e, h'⟩ := (sp_of (f := n_help_Plainapi_Event) (args := [s1, s2]) (P := P) (v := fun _ : Unit => vb true) (Q := fun _ => P) fun R H h => by
  refine wp_of (fun r => help_Plainapi_Event_of _ _ H) ?_
  refine w_call h same fun _ H1 h1 => ?_
  exact w_ret ⟨(), rfl, h1.to⟩) emp H (by rw [sep_emp]; exact h)
 rw [e]
 rw [sep_emp] at h'
 exact hk H' h'
theorem points_same {P : SP} (s1 s2 : Value) (l : List Pt) (hl : l.length ≤ 1000000) [r1 : Rd P s1 7 Pt.cells l] [r2 : Rd P s2 7 Pt.cells l] {H : AH} (h : Holds P H) {k : Value × AH → OV} {Q : Value → AH → Prop} (hk : ∀ H', Holds P H' → wp (k (vb true, H')) Q) :
  wp ((FF n_hS_Point [s1, s2, .func (.func n_help_Point) #[] #[]] H).bind k) Q := by
 have same : Sp n_hS_Point [s1, s2, .func (.func n_help_Point) #[] #[]] P (fun _ : Unit => vb true) (fun _ => P) := by
  refine sp_of fun R H h => ?_
  refine wp_of (fun r => hS_Point_of _ _ _ H) ?_
  refine w_rlen (s := s1) (l := l) h ?_
  refine w_rlen (s := s2) (l := l) h ?_
  refine w_bind (neq_f rfl) ?_
  with_reducible repeat refine gg ?_
  refine wp_eq (hS_Point_k0_eq ..) ?_
  refine wp_eq (hS_Point_k2_eq ..) ?_
  have loop : ∀ (d i : Nat) (H : AH), i + d = l.length → Holds (P * R) H → wp (hS_Point_k4 s1 s2 (.func (.func n_help_Point) #[] #[]) (vb false) (vi (i : Int)) H) fun v' H' => ∃ x : Unit, v' = vb true ∧ Holds (P * R) H' := by
   intro d
   induction d with
   | zero =>
    intro i H hi hh
    refine wp_eq (hS_Point_k4_eq ..) ?_
    refine w_rlen (s := s1) (l := l) hh ?_
    refine w_bind (lss_f (by omega)) ?_
    with_reducible repeat refine gg ?_
    refine wp_eq (hS_Point_e3_0_eq ..) ?_
    refine wp_eq (hS_Point_k1_eq ..) ?_
    exact w_ret ⟨(), rfl, hh⟩
   | succ d ih =>
    intro i H hi hh
    have hil : i < l.length := by omega
    refine wp_eq (hS_Point_k4_eq ..) ?_
    refine w_rlen (s := s1) (l := l) hh ?_
    refine w_bind (lss_t (by omega)) ?_
    with_reducible repeat refine gg ?_
    refine wp_eq (hS_Point_k5_eq ..) ?_
    refine w_rldN (s := s1) (l := l) hh hil ?_
    refine w_rldN (s := s2) (l := l) hh hil ?_
    refine wp_eq (show ((pCallee (.func (.func n_help_Point) #[] #[]) [.agg (Pt.cells l[i]).toArray, .agg (Pt.cells l[i]).toArray]).bind fun c => FF c.1 c.2 H).bind _ = (FF n_help_Point [.agg (Pt.cells l[i]).toArray, .agg (Pt.cells l[i]).toArray] H).bind _ from rfl) ?_
    refine w_call hh (help_point l[i]) fun _ H1 h1 => ?_
    with_reducible repeat refine gg ?_
    rw [Bool.not_true]
    with_reducible repeat refine gg ?_
    refine wp_eq (hS_Point_k6_eq ..) ?_
    refine w_bind (bin_add_i (by omega) (by omega)) ?_
    exact ih (i + 1) H1 (by omega) h1.to
  exact loop l.length 0 H (by omega) h
 obtain ⟨x, H', e, h'⟩ := same emp H (by rw [sep_emp]; exact h)
 rw [e]
 rw [sep_emp] at h'
 exact hk H' h'
theorem B_events {p : Nat} {g : PIds} {σ : Sta} (hE : σ.μ.E.length ≤ 1000000) : Sp n_mem_Mem_Events [vp g.m] (partsB p g σ) (fun v : Value => v) (fun v => ts 5 Ev.cells v σ.μ.E * partsB p g σ) := by
 intro R H h
 unfold partsB at h
 obtain ⟨x, H', h1, h2⟩ := mem_events g.m σ.μ hE _ H (Holds.fr (A := memP g.m σ.μ) h)
 refine ⟨x, H', h1, ?_⟩
 unfold partsB
 exact h2.to
theorem partsXB_E {x : Nat} {g : XIds} {σ : Sta} {R : SP} {H : AH} (h : Holds (partsXB x g σ * R) H) : ∃ (kv vv ev : Value) (Z : SP), Holds (blk g.m (.cells false [kv, vv, ev]) * (ts 5 Ev.cells ev σ.μ.E * (blk x (.cells false [vi σ.c.sh, vi σ.c.sl, vi σ.c.wk, vi σ.c.wd, vu σ.c.un, vp g.m, vp g.ib, vp g.tb, vp g.po, vp g.co, g.ov, g.rv, g.wv, g.pv]) * (Z * R)))) H ∧
  ∀ {R' : SP} {H' : AH}, Holds (blk g.m (.cells false [kv, vv, ev]) * (ts 5 Ev.cells ev σ.μ.E * (blk x (.cells false [vi σ.c.sh, vi σ.c.sl, vi σ.c.wk, vi σ.c.wd, vu σ.c.un, vp g.m, vp g.ib, vp g.tb, vp g.po, vp g.co, g.ov, g.rv, g.wv, g.pv]) * (Z * R')))) H' → Holds (partsXB x g σ * R') H' := by
 unfold partsXB at h
 have h1 : Holds (memX g.m σ.μ * (blk x (.cells false [vi σ.c.sh, vi σ.c.sl, vi σ.c.wk, vi σ.c.wd, vu σ.c.un, vp g.m, vp g.ib, vp g.tb, vp g.po, vp g.co, g.ov, g.rv, g.wv, g.pv]) * ((inbX g.ib g.m σ.c.sh σ.nx σ.μ.N * (tab g.tb g.m σ.c.sh.toNat σ.c.sl.toNat *
  (ts 3 encOb g.ov (σ.obs.map fun x => x.1) * (ts 1 encP1 g.rv g.rp * (ringsX g.m 0 (g.rp.zip (σ.obs.map fun x => x.2)) * (ts 1 encI g.wv (pairsL g.ws) * ts 7 Pt.cells g.pv (byStep σ.pts))))))) * R))) H := h.to
 obtain ⟨al, h2⟩ := Holds.ex.1 h1
 rw [sep_assoc, Holds.pu] at h2
 obtain ⟨hp, h2⟩ := h2
 obtain ⟨⟨kv, vv, ev⟩, h3⟩ := Holds.ex.1 h2
 dsimp only at h3
 refine ⟨kv, vv, ev, (ts 3 encP kv al * ts 1 encV vv al) * (inbX g.ib g.m σ.c.sh σ.nx σ.μ.N * (tab g.tb g.m σ.c.sh.toNat σ.c.sl.toNat *
  (ts 3 encOb g.ov (σ.obs.map fun x => x.1) * (ts 1 encP1 g.rv g.rp * (ringsX g.m 0 (g.rp.zip (σ.obs.map fun x => x.2)) * (ts 1 encI g.wv (pairsL g.ws) * ts 7 Pt.cells g.pv (byStep σ.pts))))))), h3.to, fun {R' H'} h4 => ?_⟩
 unfold partsXB
 have h5 : Holds (memX g.m σ.μ * (blk x (.cells false [vi σ.c.sh, vi σ.c.sl, vi σ.c.wk, vi σ.c.wd, vu σ.c.un, vp g.m, vp g.ib, vp g.tb, vp g.po, vp g.co, g.ov, g.rv, g.wv, g.pv]) * ((inbX g.ib g.m σ.c.sh σ.nx σ.μ.N * (tab g.tb g.m σ.c.sh.toNat σ.c.sl.toNat *
  (ts 3 encOb g.ov (σ.obs.map fun x => x.1) * (ts 1 encP1 g.rv g.rp * (ringsX g.m 0 (g.rp.zip (σ.obs.map fun x => x.2)) * (ts 1 encI g.wv (pairsL g.ws) * ts 7 Pt.cells g.pv (byStep σ.pts))))))) * R'))) H' := by
  refine Holds.ex.2 ⟨al, ?_⟩
  rw [sep_assoc, Holds.pu]
  refine ⟨hp, Holds.ex.2 ⟨(kv, vv, ev), ?_⟩⟩
  dsimp only
  exact h4.to
 exact h5.to
theorem pair_same (p x : Nat) (rp : List Nat) (σ : Sta) (hE : σ.μ.E.length ≤ 1000000) (hp : σ.pts.length < 400000) :
  Sp n_l23_Pair_Same [.agg [vp p, vp x].toArray] (partsR p rp σ * partsX x σ) (fun _ : Unit => vb true) (fun _ => partsR p rp σ * partsX x σ) := by
 refine sp_of fun R H h => ?_
 refine wp_of (fun r => l23_Pair_Same_of _ H) ?_
 refine w_newC (l := [vp p, vp x]) h fun b H1 h1 => ?_
 obtain ⟨g, rfl, hg, k1⟩ := partsR_open (p := p) (rp := rp) (σ := σ) (R := partsX x σ * (blk b (.cells false [vp p, vp x]) * R)) (H := H1) h1.to
 obtain ⟨gx, hgx, l1⟩ := partsX_open (p := x) (σ := σ) (R := partsB p g σ * (blk b (.cells false [vp p, vp x]) * R)) (H := H1) k1.to
 obtain ⟨kv, vv, ev, Z, m1, back⟩ := partsXB_E (x := x) (g := gx) (σ := σ) (R := partsB p g σ * (blk b (.cells false [vp p, vp x]) * R)) (H := H1) l1.to
 refine w_ld m1 end_f0 rfl ?_
 refine w_ld m1 end_nf rfl ?_
 refine w_call m1 (B_events (p := p) (g := g) (σ := σ) hE) fun v H2 m2 => ?_
 refine w_ad end_f0 ?_
 refine w_Ld1 m2 rfl ?_
 refine w_eq1 m1 m2 (by rfl) ?_
 refine w_ad end_nf ?_
 refine w_Ld1 m2 rfl ?_
 refine w_eq1 m1 m2 (by rfl) ?_
 refine w_ad end_nf ?_
 refine w_Ld1 m2 rfl ?_
 refine w_eq1 m1 m2 (by rfl) ?_
 refine events_same v ev σ.μ.E hE m2 fun H3 m3 => ?_
 with_reducible repeat refine gg ?_
 refine w_ld m3 end_f0 rfl ?_
 have m4 := back (R' := ts 5 Ev.cells v σ.μ.E * (partsB p g σ * (blk b (.cells false [vp p, vp x]) * R))) (H' := H3) m3.to
 have n3 := partsR_close (p := p) (rp := g.rp) (σ := σ) (R := partsXB x gx σ * (ts 5 Ev.cells v σ.μ.E * (blk b (.cells false [vp p, vp x]) * R))) (H := H3) g rfl hg m4.to
 refine w_gE_tt ?_
 refine w_call n3 (points_law p g.rp σ hp) fun pv H4 n4 => ?_
 refine w_gad_tt ?_
 refine w_ad end_f0 ?_
 refine w_gB_tt ?_
 refine w_Ld1 n4 rfl ?_
 refine w_eq1 n3 n4 (by rfl) ?_
 refine w_gad_tt ?_
 refine w_ad end_nf ?_
 refine w_gB_tt ?_
 refine w_Ld1 n4 rfl ?_
 refine w_eq1 n3 n4 (by rfl) ?_
 refine w_gE_tt ?_
 have n5 := n4
 unfold partsXB at n5
 refine points_same pv gx.pv (byStep σ.pts) (by rw [byStep_len]; omega) n5 fun H5 n6 => ?_
 refine w_bind (pick_t _ _) ?_
 refine w_ret ⟨(), rfl, ?_⟩
 have n7 : Holds (partsXB x gx σ * (partsR p g.rp σ * R)) H5 := by
  unfold partsXB
  exact n6.to
 have n8 := partsX_close (p := x) (σ := σ) (R := partsR p g.rp σ * R) gx hgx n7
 exact n8.to
theorem wTurn_lt {w how n : Nat} (h : wTurn w how = some n) : n < 18446744073709551616 := by
 have := wCount_le w
 unfold wTurn at h
 split at h
 ·split at h
  ·have := Option.some.inj h; omega
  ·cases h
 ·split at h
  ·have := Option.some.inj h; omega
  ·cases h
 ·split at h
  ·have := Option.some.inj h; omega
  ·cases h
 ·cases h
structure SI (σ : Sta) (k : Nat) : Prop where
 c : rightB σ.c = true
 N : σ.μ.N ≤ k
 E : σ.μ.E.length ≤ k
 pts : σ.pts.length ≤ k
 V : ∀ l, σ.μ.V l < 18446744073709551616
 obs : σ.obs.length ≤ 100
 cells : ∀ o, o < σ.obs.length → 1 ≤ (cellsOf' σ o).length ∧ (cellsOf' σ o).length < 1000
 slot : ∀ s i, σ.μ.V (10, s, i) ≠ 0 → σ.μ.V (10, s, i) % 4294967296 < σ.obs.length
 head : ∀ o, σ.μ.V (12, o, 0) ≤ k
theorem SI.ok {σ : Sta} {k : Nat} (h : SI σ k) (hk : k < 300000) : SOk σ :=
 ⟨h.c, by have := h.N; omega, by have := h.pts; omega, h.V, by have := h.obs; omega, h.cells, h.slot⟩
theorem SI.mono {σ : Sta} {k k' : Nat} (h : SI σ k) (hk : k ≤ k') : SI σ k' :=
 ⟨h.c, Nat.le_trans h.N hk, Nat.le_trans h.E hk, Nat.le_trans h.pts hk, h.V, h.obs, h.cells, h.slot, fun o => Nat.le_trans (h.head o) hk⟩
theorem SI.acc {σ : Sta} {k : Nat} (h : SI σ k) (who kd : Int) (l : Loc) : SI (σ.mem (σ.μ.acc who kd l)) (k + 2) :=
 ⟨h.c, by have := h.N; show σ.μ.N + 2 ≤ _; omega, by have := h.E; show (σ.μ.E ++ [_]).length ≤ _; simp; omega, Nat.le_trans h.pts (by omega), h.V, h.obs, h.cells, h.slot, fun o => Nat.le_trans (h.head o) (by omega)⟩
theorem SI.put {σ : Sta} {k : Nat} (h : SI σ k) (l : Loc) (v : Nat) (hv : v < 18446744073709551616) (h1 : l.1 ≠ 10) (h2 : l.1 ≠ 12 ∨ v ≤ k) : SI (σ.mem (σ.μ.put l v)) k := by
 refine ⟨h.c, h.N, h.E, h.pts, fun x => ?_, h.obs, h.cells, fun s i => ?_, fun o => ?_⟩
 ·show (if x = l then v else σ.μ.V x) < _
  split
  ·exact hv
  ·exact h.V x
 ·show (if (10, s, i) = l then v else σ.μ.V (10, s, i)) ≠ 0 → (if (10, s, i) = l then v else σ.μ.V (10, s, i)) % _ < _
  rw [if_neg (fun e => h1 (by rw [← e]))]
  exact h.slot s i
 ·show (if (12, o, 0) = l then v else σ.μ.V (12, o, 0)) ≤ _
  split
  ·rename_i e
   rcases h2 with h2 | h2
   ·exact absurd (by rw [← e]) h2
   ·exact h2
  ·exact h.head o
theorem SI.swp {σ : Sta} {k : Nat} (h : SI σ k) (who : Int) (l : Loc) (was now : Nat) (hv : now < 18446744073709551616) (h1 : l.1 ≠ 10) (h2 : l.1 ≠ 12) : SI (σ.mem (σ.μ.swp who l was now)) (k + 2) := by
 have e : σ.μ.swp who l was now = (if σ.μ.V l = was then (σ.μ.acc who 3 l).put l now else σ.μ.acc who 4 l) := by
  show (⟨_, _, _⟩ : Mu) = _
  unfold Mu.swap
  split <;> rfl
 rw [e]
 split
 ·exact (h.acc who 3 l).put l now hv h1 (.inl h2)
 ·exact h.acc who 4 l
theorem SI.turn {σ : Sta} {k : Nat} (h : SI σ k) (who : Int) (o w how : Nat) : SI (σ.mem (σ.μ.turn who o w (wTurn w how))) (k + 2) := by
 cases e : wTurn w how with
 | none => exact h.mono (by omega)
 | some n => exact h.swp who (11, (o : Int), 0) w n (wTurn_lt e) (by simp) (by simp)
theorem SI.cnt {σ : Sta} {k : Nat} (h : SI σ k) (who : Int) (l : Loc) (n : Nat) (h1 : l.1 ≠ 10) (h2 : l.1 ≠ 12) : SI (σ.mem (σ.μ.cnt who l n)) (k + 2) :=
 (h.acc who 3 l).put l _ (Nat.mod_lt _ (by omega)) h1 (.inl h2)
theorem SI.note {σ : Sta} {k : Nat} (h : SI σ k) (step who e : Int) : SI (σ.note step who e) (k + 1) :=
 ⟨h.c, Nat.le_trans h.N (by omega), Nat.le_trans h.E (by omega), by have := h.pts; show (σ.pts ++ [_]).length ≤ _; simp; omega, h.V, h.obs, h.cells, h.slot, fun o => Nat.le_trans (h.head o) (by omega)⟩
theorem SI.link {σ : Sta} {k : Nat} (h : SI σ k) (who : Int) (l : Loc) (nx : Int → Option Nat) : SI { σ with μ := σ.μ.acc who 6 l, nx := nx } (k + 2) := by
 have := h.acc who 6 l
 exact ⟨this.c, this.N, this.E, this.pts, this.V, this.obs, this.cells, this.slot, this.head⟩
theorem SI.begin {σ : Sta} {k : Nat} (h : SI σ k) (who place : Int) : SI (σ.begin who place) (k + 1) :=
 ⟨h.c, by have := h.N; show σ.μ.N + 1 ≤ _; omega, Nat.le_trans h.E (by omega), Nat.le_trans h.pts (by omega), h.V, h.obs, h.cells, h.slot, fun o => Nat.le_trans (h.head o) (by omega)⟩
theorem SI.lay {σ : Sta} {k : Nat} (h : SI σ k) (t : Tk) : SI (layM σ t) (k + 2) := by
 have ha := h.acc t.who 6 (16, (t.obj : Int), ((wCount t.w % (cellsOf' σ t.obj).length : Nat) : Int))
 rw [layM_eq]
 have hl : (σ.obs.modify t.obj fun q => (q.1, (cellsOf' σ t.obj).set (wCount t.w % (cellsOf' σ t.obj).length) (⟨t.x.flow, t.x.a, t.x.b⟩ : Pk))).length = σ.obs.length := by simp
 refine ⟨ha.c, ha.N, ha.E, ha.pts, ha.V, by rw [hl]; exact h.obs, fun o ho => ?_, fun s i hs => by show _ < List.length _; rw [hl]; exact h.slot s i hs, ha.head⟩
 have ho' : o < σ.obs.length := by
  have : o < (σ.obs.modify t.obj fun q => (q.1, (cellsOf' σ t.obj).set (wCount t.w % (cellsOf' σ t.obj).length) (⟨t.x.flow, t.x.a, t.x.b⟩ : Pk))).length := ho
  rwa [hl] at this
 have hc := h.cells o ho'
 rw [cells_at ho'] at hc
 have hx : ∀ z : Ob × List Pk, z.2.length = (σ.obs[o]).2.length → 1 ≤ z.2.length ∧ z.2.length < 1000 := fun z hz => by rw [hz]; exact hc
 unfold cellsOf'
 rw [List.getElem?_modify, List.getElem?_eq_getElem ho']
 refine hx (if t.obj = o then ((σ.obs[o]).1, (cellsOf' σ t.obj).set (wCount t.w % (cellsOf' σ t.obj).length) ⟨t.x.flow, t.x.a, t.x.b⟩) else σ.obs[o]) ?_
 split
 ·rename_i e
  subst e
  rw [cells_at ho', List.length_set]
 ·rfl
theorem TOk.mono {σ σ' : Sta} {t : Tk} (T : TOk σ t) (hc : σ'.c = σ.c) (ho : σ'.obs.length = σ.obs.length) : TOk σ' t :=
 ⟨fun h => by rw [ho]; exact T.obj h, by rw [hc]; exact T.s, by rw [hc]; exact T.i, T.w, T.c5, T.c0, T.ats⟩
abbrev Tk.new (c : Cfg) (who : Int) (x : Cl) : Tk := ⟨who, x, (x.flow.tmod c.sh + c.sh).tmod c.sh, 0, 0, 0, false, 0, 0, 0, 0, 0⟩
theorem TOk.new {σ : Sta} (hc : rightB σ.c = true) (who : Int) (x : Cl) : TOk σ (Tk.new σ.c who x) := by
 have := rightB_iff.1 hc
 exact ⟨fun h => by simp at h, rfl, fun _ _ => by simp; omega, by simp, fun h => by simp at h, fun h => by simp at h, .inl rfl⟩
theorem layM_hd (σ : Sta) (t : Tk) : ((layM σ t).obs.map fun q => q.1) = σ.obs.map fun q => q.1 := by
 unfold layM
 apply List.ext_getElem?
 intro j
 simp only [List.getElem?_map, List.getElem?_modify]
 cases σ.obs[j]? with
 | none => rfl
 | some q =>
  show some (if t.obj = j then _ else q).1 = some q.1
  split <;> rfl
structure Kept (σ : Sta) (t : Tk) (r : Sta × Tk × Bool) (k : Nat) : Prop where
 si : SI r.1 (k + 3)
 c : r.1.c = σ.c
 obs : r.1.obs.length = σ.obs.length
 hd : (r.1.obs.map fun q => q.1) = σ.obs.map fun q => q.1
 pts : r.1.pts.length ≤ σ.pts.length + 1
 who : r.2.1.who = t.who
 x : r.2.1.x = t.x
 ok : r.2.2 = false → TOk r.1 r.2.1
theorem scan_kept {σ : Sta} {t : Tk} {k : Nat} (h : SI σ k) (T : TOk σ t) (hat : t.at' = 0 ∨ t.at' = 2) : Kept σ t (scanE σ t) k := by
 refine ⟨(h.acc _ _ _).mono (by omega), rfl, rfl, rfl, Nat.le_succ _, rfl, rfl, fun _ => ?_⟩
 have hi := T.i (by omega) (by omega)
 refine ⟨fun hh => ?_, T.s, fun h1 h2 => ?_, T.w, fun hh => ?_, fun hh => ?_, ?_⟩
 ·show (scanT σ t).obj < σ.obs.length
  have hf : (scanT σ t).found = true := by
   cases hf : (scanT σ t).found with
   | true => rfl
   | false =>
    have hh' : 6 ≤ (if (scanT σ t).found = true then 6 else if lastT σ (scanT σ t) = true then 3 else 2 : Nat) ∨ (if (scanT σ t).found = true then 6 else if lastT σ (scanT σ t) = true then 3 else 2 : Nat) = 5 ∧ _ := hh
    rw [hf, if_neg (by simp)] at hh'
    rcases hh' with q | q
    ·split at q <;> omega
    ·have q := q.1
     split at q <;> omega
  have hf' : hitS (σ.μ.V (10, t.s, (t.i : Int))) t.x.flow = true := hf
  have e : (scanT σ t).obj = σ.μ.V (10, t.s, (t.i : Int)) % 4294967296 := if_pos hf'
  rw [e]
  have hv := (of_decide_eq_true hf').1
  exact h.slot _ _ hv
 ·have h1 : (if (scanT σ t).found = true then 6 else if lastT σ (scanT σ t) = true then 3 else 2 : Nat) < 5 := h1
  have h2 : (if (scanT σ t).found = true then 6 else if lastT σ (scanT σ t) = true then 3 else 2 : Nat) ≠ 3 := h2
  have hl : ¬ lastT σ (scanT σ t) = true := by
   intro hl
   rw [if_pos hl] at h1 h2
   split at h1
   ·omega
   ·rename_i hn
    rw [if_neg hn] at h2
    exact h2 rfl
  have : ¬ (σ.c.sl ≤ ((t.i + 1 : Nat) : Int)) := fun q => hl (decide_eq_true q)
  show ((t.i + 1 : Nat) : Int) < σ.c.sl
  omega
 ·have hh : (if (scanT σ t).found = true then 6 else if lastT σ (scanT σ t) = true then 3 else 2 : Nat) = 5 := hh
  split at hh
  ·omega
  ·split at hh <;> omega
 ·have hh : (if (scanT σ t).found = true then 6 else if lastT σ (scanT σ t) = true then 3 else 2 : Nat) = 10 ∨ (if (scanT σ t).found = true then 6 else if lastT σ (scanT σ t) = true then 3 else 2 : Nat) = 11 ∨ (if (scanT σ t).found = true then 6 else if lastT σ (scanT σ t) = true then 3 else 2 : Nat) = 14 ∨ 21 ≤ (if (scanT σ t).found = true then 6 else if lastT σ (scanT σ t) = true then 3 else 2 : Nat) := hh
  split at hh
  ·omega
  ·split at hh <;> omega
 ·show (if (scanT σ t).found = true then 6 else if lastT σ (scanT σ t) = true then 3 else 2 : Nat) = 0 ∨ _
  simp only [scanE]
  split
  ·simp
  ·split <;> simp
theorem step_kept {σ : Sta} {t : Tk} {k : Nat} (now : Int) (h : SI σ k) (T : TOk σ t) : Kept σ t (stepE σ t now) k := by
 rcases T.ats with hat | hat | hat | hat | hat | hat | hat | hat | hat | hat | hat | hat | hat | hat | hat | hat | hat | hat | hat | hat | hat | hat | hat | hat
 ·-- 0
  cases hx : refusal t.x with
  | some e =>
   have hs : stepE σ t now = (σ.note now t.who e, { t with code := e }, true) := by simp only [stepE, hat, hx]
   rw [hs]
   exact ⟨(h.note _ _ _).mono (by omega), rfl, rfl, rfl, (by simp [Sta.note]), rfl, rfl, fun h => by simp at h⟩
  | none =>
   have hs : stepE σ t now = scanE σ t := by simp only [stepE, hat, hx, scanE]
   rw [hs]
   exact scan_kept h T (.inl hat)
 ·-- 2
  have hs : stepE σ t now = scanE σ t := by simp only [stepE, hat, scanE]
  rw [hs]
  exact scan_kept h T (.inr hat)
 ·-- 3
  by_cases hw : σ.μ.V (8, t.s, 0) = 0
  ·have hs : stepE σ t now = (σ.mem (σ.μ.swp t.who (8, t.s, 0) 0 1), { t with at' := 4, i := 0 }, false) := by simp only [stepE, hat]; rw [if_pos hw]
   rw [hs]
   exact ⟨(h.swp _ _ _ _ (by omega) (by simp) (by simp)).mono (by omega), rfl, rfl, rfl, Nat.le_succ _, rfl, rfl, fun _ => ⟨fun _ => (by rename_i hh; simp at hh), T.s, (fun _ _ => by have := rightB_iff.1 h.c; show ((0 : Nat) : Int) < σ.c.sl; omega), T.w, (fun h => by simp at h), (fun h => by simp at h), (by simp)⟩⟩
  ·have hs : stepE σ t now = (σ.mem (σ.μ.swp t.who (8, t.s, 0) 0 1), t, false) := by simp only [stepE, hat]; rw [if_neg hw]
   rw [hs]
   exact ⟨(h.swp _ _ _ _ (by omega) (by simp) (by simp)).mono (by omega), rfl, rfl, rfl, Nat.le_succ _, rfl, rfl, fun _ => T.mono rfl rfl⟩
 ·-- 4
  have hi := T.i (by omega) (by omega)
  cases hf : (scanT σ t).found with
  | true =>
   have hs : stepE σ t now = (scanM σ t, { scanT σ t with at' := 5 }, false) := by simp only [stepE, hat, hf]; rfl
   rw [hs]
   have hf' : hitS (σ.μ.V (10, t.s, (t.i : Int))) t.x.flow = true := hf
   have e : (scanT σ t).obj = σ.μ.V (10, t.s, (t.i : Int)) % 4294967296 := if_pos hf'
   have ho : (scanT σ t).obj < σ.obs.length := by rw [e]; exact h.slot _ _ (of_decide_eq_true hf').1
   exact ⟨(h.acc _ _ _).mono (by omega), rfl, rfl, rfl, Nat.le_succ _, rfl, rfl, fun _ => ⟨fun _ => ho, T.s, (fun h1 h2 => by simp at h1), T.w, (fun _ h2 => by rw [show (scanT σ t).found = false from h2] at hf; cases hf), (fun h => by simp at h), (by simp)⟩⟩
  | false =>
   cases hla : lastT σ (scanT σ t) with
   | true =>
    have hs : stepE σ t now = ((scanM σ t).note now t.who 5, { scanT σ t with at' := 5, code := 5 }, false) := by simp only [stepE, hat, hf, hla]; rfl
    rw [hs]
    exact ⟨((h.acc _ _ _).note _ _ _).mono (by omega), rfl, rfl, rfl, (by simp [Sta.note]), rfl, rfl, fun _ => ⟨fun _ => (by rename_i hh; rw [show (scanT σ t).found = false from hf] at hh; simp at hh), T.s, (fun h1 h2 => by simp at h1), T.w, (fun _ _ => rfl), (fun h => by simp at h), (by simp)⟩⟩
   | false =>
    have hs : stepE σ t now = (scanM σ t, scanT σ t, false) := by simp only [stepE, hat, hf, hla]; rfl
    rw [hs]
    have hl : ¬ (σ.c.sl ≤ ((t.i + 1 : Nat) : Int)) := fun q => by rw [show lastT σ (scanT σ t) = true from decide_eq_true q] at hla; cases hla
    have ea : (scanT σ t).at' = 4 := hat
    exact ⟨(h.acc _ _ _).mono (by omega), rfl, rfl, rfl, Nat.le_succ _, rfl, rfl, fun _ => ⟨fun _ => (by rename_i hh; rw [ea] at hh; simp at hh), T.s, (fun _ _ => by show ((t.i + 1 : Nat) : Int) < σ.c.sl; omega), T.w, (fun h => by rw [ea] at h; simp at h), (fun h => by rw [ea] at h; simp at h), (by rw [ea]; simp)⟩⟩
 ·-- 5
  cases hf : t.found with
  | false =>
   have hs : stepE σ t now = (σ.mem ((σ.μ.acc t.who 2 (8, t.s, 0)).put (8, t.s, 0) 0), { t with at' := 6 }, true) := by simp only [stepE, hat, hf]; rfl
   rw [hs]
   exact ⟨((h.acc _ _ _).put _ _ (by omega) (by simp) (.inl (by simp))).mono (by omega), rfl, rfl, rfl, Nat.le_succ _, rfl, rfl, fun h => by simp at h⟩
  | true =>
   have hs : stepE σ t now = (σ.mem ((σ.μ.acc t.who 2 (8, t.s, 0)).put (8, t.s, 0) 0), { t with at' := 6 }, false) := by simp only [stepE, hat, hf]; rfl
   rw [hs]
   exact ⟨((h.acc _ _ _).put _ _ (by omega) (by simp) (.inl (by simp))).mono (by omega), rfl, rfl, rfl, Nat.le_succ _, rfl, rfl, fun _ => ⟨fun _ => T.obj (.inr ⟨hat, hf⟩), T.s, (fun h1 h2 => by simp at h1), T.w, (fun h => by simp at h), (fun h => by simp at h), (by simp)⟩⟩
 ·-- 6
  have hs : stepE σ t now = (σ.mem (σ.μ.acc t.who 5 (13, (t.obj : Int), 0)), { t with at' := 7 }, false) := by simp only [stepE, hat]
  rw [hs]
  exact ⟨(h.acc _ _ _).mono (by omega), rfl, rfl, rfl, Nat.le_succ _, rfl, rfl, fun _ => ⟨fun _ => T.obj (.inl (by omega)), T.s, (fun h1 h2 => by simp at h1), T.w, (fun h => by simp at h), (fun h => by simp at h), (by simp)⟩⟩
 ·-- 7
  by_cases hw : wState (σ.μ.V (11, (t.obj : Int), 0)) = 2
  ·have hs : stepE σ t now = (wordM σ t, { t with w := σ.μ.V (11, (t.obj : Int), 0), at' := 3 }, false) := by simp only [stepE, hat]; rw [if_pos hw]
   rw [hs]
   exact ⟨(h.acc _ _ _).mono (by omega), rfl, rfl, rfl, Nat.le_succ _, rfl, rfl, fun _ => ⟨fun _ => (by rename_i hh; simp at hh), T.s, (fun _ h2 => by simp at h2), h.V _, (fun h => by simp at h), (fun h => by simp at h), (by simp)⟩⟩
  ·have hs : stepE σ t now = (wordM σ t, { t with w := σ.μ.V (11, (t.obj : Int), 0), at' := 8 }, false) := by simp only [stepE, hat]; rw [if_neg hw]
   rw [hs]
   exact ⟨(h.acc _ _ _).mono (by omega), rfl, rfl, rfl, Nat.le_succ _, rfl, rfl, fun _ => ⟨fun _ => T.obj (.inl (by omega)), T.s, (fun h1 h2 => by simp at h1), h.V _, (fun h => by simp at h), (fun h => by simp at h), (by simp)⟩⟩
 ·-- 8
  cases hf : fullT σ t with
  | true =>
   have hs : stepE σ t now = (headM σ t, { t with at' := 15 }, false) := by simp only [stepE, hat, hf]; rfl
   rw [hs]
   exact ⟨(h.acc _ _ _).mono (by omega), rfl, rfl, rfl, Nat.le_succ _, rfl, rfl, fun _ => ⟨fun _ => T.obj (.inl (by omega)), T.s, (fun h1 h2 => by simp at h1), T.w, (fun h => by simp at h), (fun h => by simp at h), (by simp)⟩⟩
  | false =>
   by_cases hw : wState t.w = 1
   ·have hs : stepE σ t now = (headM σ t, { t with at' := 9 }, false) := by simp only [stepE, hat, hf]; rw [if_pos hw]; rfl
    rw [hs]
    exact ⟨(h.acc _ _ _).mono (by omega), rfl, rfl, rfl, Nat.le_succ _, rfl, rfl, fun _ => ⟨fun _ => T.obj (.inl (by omega)), T.s, (fun h1 h2 => by simp at h1), T.w, (fun h => by simp at h), (fun h => by simp at h), (by simp)⟩⟩
   ·have hs : stepE σ t now = (headM σ t, { t with at' := 12 }, false) := by simp only [stepE, hat, hf]; rw [if_neg hw]; rfl
    rw [hs]
    exact ⟨(h.acc _ _ _).mono (by omega), rfl, rfl, rfl, Nat.le_succ _, rfl, rfl, fun _ => ⟨fun _ => T.obj (.inl (by omega)), T.s, (fun h1 h2 => by simp at h1), T.w, (fun h => by simp at h), (fun h => by simp at h), (by simp)⟩⟩
 ·-- 9
  cases hw : turned σ.μ t.obj t.w (wTurn t.w 0) with
  | true =>
   have hs : stepE σ t now = ((σ.mem (σ.μ.turn t.who t.obj t.w (wTurn t.w 0))).note now t.who 0, { t with at' := 10, code := 0 }, false) := by simp only [stepE, hat, hw]; rfl
   rw [hs]
   exact ⟨((h.turn _ _ _ _).note _ _ _).mono (by omega), rfl, rfl, rfl, (by simp [Sta.note]), rfl, rfl, fun _ => ⟨fun _ => T.obj (.inl (by omega)), T.s, (fun h1 h2 => by simp at h1), T.w, (fun h => by simp at h), (fun _ => rfl), (by simp)⟩⟩
  | false =>
   have hs : stepE σ t now = (σ.mem (σ.μ.turn t.who t.obj t.w (wTurn t.w 0)), { t with at' := 7 }, false) := by simp only [stepE, hat, hw]; rfl
   rw [hs]
   exact ⟨(h.turn _ _ _ _).mono (by omega), rfl, rfl, rfl, Nat.le_succ _, rfl, rfl, fun _ => ⟨fun _ => T.obj (.inl (by omega)), T.s, (fun h1 h2 => by simp at h1), T.w, (fun h => by simp at h), (fun h => by simp at h), (by simp)⟩⟩
 ·-- 10
  have hs : stepE σ t now = (layM σ t, { t with at' := 11 }, false) := by simp only [stepE, hat]
  rw [hs]
  exact ⟨(h.lay t).mono (by omega), rfl, layM_len σ t, layM_hd σ t, Nat.le_succ _, rfl, rfl, fun _ => (by have := layM_len σ t; exact ⟨fun _ => (by rw [this]; exact T.obj (.inl (by omega))), T.s, (fun h1 h2 => by simp at h1), T.w, (fun h => by simp at h), (fun _ => T.c0 (by omega)), (by simp)⟩)⟩
 ·-- 11
  have hs : stepE σ t now = (showM σ t, t, true) := by simp only [stepE, hat]
  rw [hs]
  exact ⟨((h.acc _ _ _).put _ _ (by have := wCount_le t.w; omega) (by simp) (.inl (by simp))).mono (by omega), rfl, rfl, rfl, Nat.le_succ _, rfl, rfl, fun h => by simp at h⟩
 ·-- 12
  have hs : stepE σ t now = (σ.mem (σ.μ.cnt t.who (3, 0, 0) 4294967296), { t with at' := 13 }, false) := by simp only [stepE, hat]
  rw [hs]
  exact ⟨(h.cnt _ _ _ (by simp) (by simp)).mono (by omega), rfl, rfl, rfl, Nat.le_succ _, rfl, rfl, fun _ => ⟨fun _ => T.obj (.inl (by omega)), T.s, (fun h1 h2 => by simp at h1), T.w, (fun h => by simp at h), (fun h => by simp at h), (by simp)⟩⟩
 ·-- 13
  cases hw : turned σ.μ t.obj t.w (wTurn t.w 0) with
  | true =>
   have hs : stepE σ t now = ((σ.mem (σ.μ.turn t.who t.obj t.w (wTurn t.w 0))).note now t.who 0, { t with at' := 14, code := 0 }, false) := by simp only [stepE, hat, hw]; rfl
   rw [hs]
   exact ⟨((h.turn _ _ _ _).note _ _ _).mono (by omega), rfl, rfl, rfl, (by simp [Sta.note]), rfl, rfl, fun _ => ⟨fun _ => T.obj (.inl (by omega)), T.s, (fun h1 h2 => by simp at h1), T.w, (fun h => by simp at h), (fun _ => rfl), (by simp)⟩⟩
  | false =>
   have hs : stepE σ t now = (σ.mem (σ.μ.turn t.who t.obj t.w (wTurn t.w 0)), { t with at' := 20 }, false) := by simp only [stepE, hat, hw]; rfl
   rw [hs]
   exact ⟨(h.turn _ _ _ _).mono (by omega), rfl, rfl, rfl, Nat.le_succ _, rfl, rfl, fun _ => ⟨fun _ => T.obj (.inl (by omega)), T.s, (fun h1 h2 => by simp at h1), T.w, (fun h => by simp at h), (fun h => by simp at h), (by simp)⟩⟩
 ·-- 14
  have hs : stepE σ t now = (layM σ t, { t with at' := 21 }, false) := by simp only [stepE, hat]
  rw [hs]
  exact ⟨(h.lay t).mono (by omega), rfl, layM_len σ t, layM_hd σ t, Nat.le_succ _, rfl, rfl, fun _ => (by have := layM_len σ t; exact ⟨fun _ => (by rw [this]; exact T.obj (.inl (by omega))), T.s, (fun h1 h2 => by simp at h1), T.w, (fun h => by simp at h), (fun _ => T.c0 (by omega)), (by simp)⟩)⟩
 ·-- 15
  by_cases hw : σ.μ.V (2, 0, 0) % 2 = 1
  ·have hs : stepE σ t now = (seqM σ t, { t with q := σ.μ.V (2, 0, 0), at' := 7 }, false) := by simp only [stepE, hat]; rw [if_pos hw]
   rw [hs]
   exact ⟨(h.acc _ _ _).mono (by omega), rfl, rfl, rfl, Nat.le_succ _, rfl, rfl, fun _ => ⟨fun _ => T.obj (.inl (by omega)), T.s, (fun h1 h2 => by simp at h1), T.w, (fun h => by simp at h), (fun h => by simp at h), (by simp)⟩⟩
  ·have hs : stepE σ t now = (seqM σ t, { t with q := σ.μ.V (2, 0, 0), at' := 16 }, false) := by simp only [stepE, hat]; rw [if_neg hw]
   rw [hs]
   exact ⟨(h.acc _ _ _).mono (by omega), rfl, rfl, rfl, Nat.le_succ _, rfl, rfl, fun _ => ⟨fun _ => T.obj (.inl (by omega)), T.s, (fun h1 h2 => by simp at h1), T.w, (fun h => by simp at h), (fun h => by simp at h), (by simp)⟩⟩
 ·-- 16
  by_cases hw : wState (σ.μ.V (11, (t.obj : Int), 0)) = 2
  ·have hs : stepE σ t now = (wordM σ t, { t with w := σ.μ.V (11, (t.obj : Int), 0), at' := 3 }, false) := by simp only [stepE, hat]; rw [if_pos hw]
   rw [hs]
   exact ⟨(h.acc _ _ _).mono (by omega), rfl, rfl, rfl, Nat.le_succ _, rfl, rfl, fun _ => ⟨fun _ => (by rename_i hh; simp at hh), T.s, (fun _ h2 => by simp at h2), h.V _, (fun h => by simp at h), (fun h => by simp at h), (by simp)⟩⟩
  ·have hs : stepE σ t now = (wordM σ t, { t with w := σ.μ.V (11, (t.obj : Int), 0), at' := 17 }, false) := by simp only [stepE, hat]; rw [if_neg hw]
   rw [hs]
   exact ⟨(h.acc _ _ _).mono (by omega), rfl, rfl, rfl, Nat.le_succ _, rfl, rfl, fun _ => ⟨fun _ => T.obj (.inl (by omega)), T.s, (fun h1 h2 => by simp at h1), h.V _, (fun h => by simp at h), (fun h => by simp at h), (by simp)⟩⟩
 ·-- 17
  cases hf : fullT σ t with
  | true =>
   have hs : stepE σ t now = (headM σ t, { t with at' := 18, mark := now }, false) := by simp only [stepE, hat, hf]; rfl
   rw [hs]
   exact ⟨(h.acc _ _ _).mono (by omega), rfl, rfl, rfl, Nat.le_succ _, rfl, rfl, fun _ => ⟨fun _ => T.obj (.inl (by omega)), T.s, (fun h1 h2 => by simp at h1), T.w, (fun h => by simp at h), (fun h => by simp at h), (by simp)⟩⟩
  | false =>
   have hs : stepE σ t now = (headM σ t, { t with at' := 7 }, false) := by simp only [stepE, hat, hf]; rfl
   rw [hs]
   exact ⟨(h.acc _ _ _).mono (by omega), rfl, rfl, rfl, Nat.le_succ _, rfl, rfl, fun _ => ⟨fun _ => T.obj (.inl (by omega)), T.s, (fun h1 h2 => by simp at h1), T.w, (fun h => by simp at h), (fun h => by simp at h), (by simp)⟩⟩
 ·-- 18
  by_cases hw : σ.μ.V (2, 0, 0) = t.q
  ·have hs : stepE σ t now = ((seqM σ t).note t.mark t.who 9, { t with code := 9 }, true) := by simp only [stepE, hat]; rw [if_pos hw]
   rw [hs]
   exact ⟨((h.acc _ _ _).note _ _ _).mono (by omega), rfl, rfl, rfl, (by simp [Sta.note]), rfl, rfl, fun h => by simp at h⟩
  ·have hs : stepE σ t now = (seqM σ t, { t with at' := 7 }, false) := by simp only [stepE, hat]; rw [if_neg hw]
   rw [hs]
   exact ⟨(h.acc _ _ _).mono (by omega), rfl, rfl, rfl, Nat.le_succ _, rfl, rfl, fun _ => ⟨fun _ => T.obj (.inl (by omega)), T.s, (fun h1 h2 => by simp at h1), T.w, (fun h => by simp at h), (fun h => by simp at h), (by simp)⟩⟩
 ·-- 20
  have hs : stepE σ t now = (σ.mem (σ.μ.cnt t.who (3, 0, 0) 1), { t with at' := 7 }, false) := by simp only [stepE, hat]
  rw [hs]
  exact ⟨(h.cnt _ _ _ (by simp) (by simp)).mono (by omega), rfl, rfl, rfl, Nat.le_succ _, rfl, rfl, fun _ => ⟨fun _ => T.obj (.inl (by omega)), T.s, (fun h1 h2 => by simp at h1), T.w, (fun h => by simp at h), (fun h => by simp at h), (by simp)⟩⟩
 ·-- 21
  have hs : stepE σ t now = (showM σ t, { t with at' := 22 }, false) := by simp only [stepE, hat]
  rw [hs]
  exact ⟨((h.acc _ _ _).put _ _ (by have := wCount_le t.w; omega) (by simp) (.inl (by simp))).mono (by omega), rfl, rfl, rfl, Nat.le_succ _, rfl, rfl, fun _ => ⟨fun _ => T.obj (.inl (by omega)), T.s, (fun h1 h2 => by simp at h1), T.w, (fun h => by simp at h), (fun _ => T.c0 (by omega)), (by simp)⟩⟩
 ·-- 22
  have hs : stepE σ t now = (σ.mem (σ.μ.acc t.who 1 (9, t.s, 0)), { t with top := σ.μ.V (9, t.s, 0), at' := 23 }, false) := by simp only [stepE, hat]
  rw [hs]
  exact ⟨(h.acc _ _ _).mono (by omega), rfl, rfl, rfl, Nat.le_succ _, rfl, rfl, fun _ => ⟨fun _ => T.obj (.inl (by omega)), T.s, (fun h1 h2 => by simp at h1), T.w, (fun h => by simp at h), (fun _ => T.c0 (by omega)), (by simp)⟩⟩
 ·-- 23
  have hs : stepE σ t now = ({ σ with μ := σ.μ.acc t.who 6 (14, (t.obj : Int), 0), nx := fun k => if k = (t.obj : Int) then some t.top else σ.nx k }, { t with at' := 24 }, false) := by simp only [stepE, hat]
  rw [hs]
  exact ⟨(h.link _ _ _).mono (by omega), rfl, rfl, rfl, Nat.le_succ _, rfl, rfl, fun _ => ⟨fun _ => T.obj (.inl (by omega)), T.s, (fun h1 h2 => by simp at h1), T.w, (fun h => by simp at h), (fun _ => T.c0 (by omega)), (by simp)⟩⟩
 ·-- 24
  by_cases hw : σ.μ.V (9, t.s, 0) = t.top
  ·have hs : stepE σ t now = (σ.mem (σ.μ.swp t.who (9, t.s, 0) t.top (t.obj + 1)), { t with at' := 25 }, false) := by simp only [stepE, hat]; rw [if_pos hw]
   rw [hs]
   exact ⟨(h.swp _ _ _ _ (by have := T.obj (.inl (by omega)); have := h.obs; omega) (by simp) (by simp)).mono (by omega), rfl, rfl, rfl, Nat.le_succ _, rfl, rfl, fun _ => ⟨fun _ => T.obj (.inl (by omega)), T.s, (fun h1 h2 => by simp at h1), T.w, (fun h => by simp at h), (fun _ => T.c0 (by omega)), (by simp)⟩⟩
  ·have hs : stepE σ t now = (σ.mem (σ.μ.swp t.who (9, t.s, 0) t.top (t.obj + 1)), { t with at' := 22 }, false) := by simp only [stepE, hat]; rw [if_neg hw]
   rw [hs]
   exact ⟨(h.swp _ _ _ _ (by have := T.obj (.inl (by omega)); have := h.obs; omega) (by simp) (by simp)).mono (by omega), rfl, rfl, rfl, Nat.le_succ _, rfl, rfl, fun _ => ⟨fun _ => T.obj (.inl (by omega)), T.s, (fun h1 h2 => by simp at h1), T.w, (fun h => by simp at h), (fun _ => T.c0 (by omega)), (by simp)⟩⟩
 ·-- 25
  have hs : stepE σ t now = (σ.mem (σ.μ.cnt t.who (3, 0, 0) 1), t, true) := by simp only [stepE, hat]
  rw [hs]
  exact ⟨(h.cnt _ _ _ (by simp) (by simp)).mono (by omega), rfl, rfl, rfl, Nat.le_succ _, rfl, rfl, fun h => by simp at h⟩
theorem ex_sep {α : Type} (F : α → SP) (R : SP) : (ex fun x => F x * R) = ex F * R := by
 apply SP.ext
 intro h
 constructor
 ·rintro ⟨x, a, b, hd, rfl, ha, hb⟩
  exact ⟨a, b, hd, rfl, ⟨x, ha⟩, hb⟩
 ·rintro ⟨a, b, hd, rfl, ⟨x, ha⟩, hb⟩
  exact ⟨x, a, b, hd, rfl, ha, hb⟩
def eT (e p : Nat) (rp : List Nat) (t : Tk) : SP := ex fun v : Value => pu (rvOk rp t v) * eB e p (fnV e (nfOf t.at')) v t
def xT (x P : Nat) (t : Tk) : SP := ex fun k : Xk => pu (Rlt t k) * xB x P t k
theorem eP_eT (e p : Nat) (rp : List Nat) (σ : Sta) (t : Tk) : eP e p rp σ t = eT e p rp t * partsR p rp σ := by
 unfold eP eT
 rw [← ex_sep]
 congr 1
 funext v
 rw [sep_assoc]
theorem xP_xT (x P : Nat) (σ : Sta) (t : Tk) : xP x P σ t = xT x P t * partsX P σ := by
 unfold xP xT
 rw [← ex_sep]
 congr 1
 funext v
 rw [sep_assoc]
def xU (x P : Nat) (r : Sta × Tk × Bool) : SP := ex fun k : Xk => pu (if r.2.2 = true then k.code = r.2.1.code else Rlt r.2.1 k) * xB x P r.2.1 k
theorem xQ_xU (x P : Nat) (r : Sta × Tk × Bool) : xQ x P r = xU x P r * partsX P r.1 := by
 unfold xQ xU
 rw [← ex_sep]
 congr 1
 funext v
 rw [sep_assoc]
def eU (e p : Nat) (rp : List Nat) (r : Sta × Tk × Bool) : SP := if r.2.2 = true then emp else eT e p rp r.2.1
theorem eQ_eU (e p : Nat) (rp : List Nat) (r : Sta × Tk × Bool) : eQ e p rp r = eU e p rp r * partsR p rp r.1 := by
 unfold eQ eU
 split
 ·rw [emp_sep]
 ·rw [eP_eT]
theorem xU_go {x P : Nat} {r : Sta × Tk × Bool} (h : r.2.2 = false) : xU x P r = xT x P r.2.1 := by
 unfold xU xT
 simp only [h]
 rfl
theorem eU_go {e p : Nat} {rp : List Nat} {r : Sta × Tk × Bool} (h : r.2.2 = false) : eU e p rp r = eT e p rp r.2.1 := by
 unfold eU
 rw [if_neg (by rw [h]; simp)]
section
variable (p x : Nat) (rp : List Nat) (σ : Sta)
theorem enq_newR (hc : rightB σ.c = true) (who : Int) (c : Cl) : Sp n_enq_New [vp p, vi who, .agg (Cl.cells c).toArray] (partsR p rp σ) (fun e : Nat => vp e) (fun e => eT e p rp (Tk.new σ.c who c) * partsR p rp σ) := by
 have hr := rightB_iff.1 hc
 refine sp_of fun R H h => ?_
 refine wp_of (fun r => enq_New_of _ _ _ H) ?_
 refine w_newC h fun b H1 h1 => ?_
 refine w_LdN h1 ?_
 obtain ⟨g, hrp, hg, k1⟩ := partsR_open (p := p) (rp := rp) (σ := σ) (R := blk b (.cells false (Cl.cells c)) * R) (H := H1) h1.to
 refine w_ld k1 end_nf rfl ?_
 refine w_ld k1 end_f0 rfl ?_
 refine w_call k1 (B_tab1 (p := p) (g := g) (σ := σ) (table_shard g.tb g.m σ.c.sh.toNat σ.c.sl.toNat (by omega) c.flow)) fun _ H2 k2 => ?_
 refine w_eqN k2 k1 rfl ?_
 have es : vi ((c.flow.tmod (σ.c.sh.toNat : Int) + (σ.c.sh.toNat : Int)).tmod (σ.c.sh.toNat : Int)) = vi (Tk.new σ.c who c).s := by rw [show ((σ.c.sh.toNat : Nat) : Int) = σ.c.sh from by omega]
 rw [es]
 have h2 := partsR_close (p := p) (rp := rp) (σ := σ) (R := blk b (.cells false (Cl.cells c)) * R) (H := H2) g hrp hg k2.to
 refine w_S ?_
 refine w_newC h2 fun e H3 h3 => ?_
 refine w_st h3 end_nf rfl rfl fun H4 h4 => ?_
 refine w_ret ⟨e, rfl, ?_⟩
 rw [← eP_eT]
 exact eP_close (v := .pointer none) (n := n_eE_first) (rvOk_lt (by simp)) rfl h4.to
theorem r16_newTask (who : Int) (c : Cl) (s : Int) : Sp n_r16_NewTask [vp x, vi who, .agg (Cl.cells c).toArray] emp (fun b : Nat => vp b) (fun b => xT b x (Tk.new σ.c who c)) := by
 refine sp_of fun R H h => ?_
 refine wp_of (fun r => r16_NewTask_of _ _ _ H) ?_
 refine w_newC h fun b H1 h1 => ?_
 refine w_LdN h1 ?_
 refine w_S ?_
 refine w_newC h1 fun xb H2 h2 => ?_
 refine w_ret ⟨xb, rfl, ?_⟩
 refine Holds.ex.2 ⟨⟨0, 0, -1, false, 0, 0, 0, 0, 0, 0, 0⟩, ?_⟩
 rw [sep_assoc, Holds.pu]
 exact ⟨by simp [Rlt], h2.to⟩
theorem pair_begin (who place : Int) (hN : σ.μ.N < 1000000) : Sp n_l23_Pair_Begin [.agg [vp p, vp x].toArray, vi who, vi place] (partsR p rp σ * partsX x σ) (fun _ : Unit => .tuple #[]) (fun _ => partsR p rp (σ.begin who place) * partsX x (σ.begin who place)) := by
 refine sp_of fun R H h => ?_
 refine wp_of (fun r => l23_Pair_Begin_of _ _ _ H) ?_
 refine w_newC (l := [vp p, vp x]) h fun b H1 h1 => ?_
 refine w_ld h1 end_f0 rfl ?_
 refine w_call h1 (beginR p rp σ who place) fun _ H2 h2 => ?_
 refine w_ld h2 end_f0 rfl ?_
 refine w_call h2 (xbegin x σ who place (by omega)) fun _ H3 h3 => ?_
 exact w_ret ⟨(), rfl, h3.to⟩
theorem told_law (xb : Nat) (r : Sta × Tk × Bool) : Sp n_l23_Told [vp xb, vb r.2.2] (xU xb x r) (fun _ : Unit => .agg (retC (if r.2.2 = true then r.2.1.code else 0)).toArray) (fun _ => xU xb x r) := by
 refine sp_of fun R H h => ?_
 obtain ⟨k, h1⟩ := Holds.ex.1 h
 rw [sep_assoc, Holds.pu] at h1
 obtain ⟨hk, h1⟩ := h1
 refine wp_of (fun r => l23_Told_of _ _ H) ?_
 refine w_new h1 fun b H2 h2 => ?_
 have back : ∀ {H' : AH}, Holds (xB xb x r.2.1 k * R) H' → Holds (xU xb x r * R) H' := fun h => Holds.ex.2 ⟨k, by rw [sep_assoc]; exact Holds.pu.2 ⟨hk, h⟩⟩
 cases hd : r.2.2
 ·with_reducible repeat refine gg ?_
  refine w_S ?_
  refine w_St h2 rfl rfl fun H3 h3 => ?_
  refine w_LdN h3 ?_
  exact w_ret ⟨(), rfl, back h3.to⟩
 ·with_reducible repeat refine gg ?_
  rw [hd, if_pos rfl] at hk
  refine w_ldN h2 end_nf ?_
  rw [hk]
  refine w_St h2 rfl rfl fun H3 h3 => ?_
  refine w_LdN h3 ?_
  exact w_ret ⟨(), rfl, back h3.to⟩
end
theorem neq_bb (d : Bool) : pBin .bool .neq (vb d) (vb d) = some (vb false) := by cases d <;> rfl
theorem w_lens {p x pb : Nat} {rp : List Nat} {σ : Sta} {P R : SP} {H : AH} {Q : Value → AH → Prop} {k : Value × AH → Value → OV} (h : Holds P H) [f : Fr P (blk pb (.cells false [vp p, vp x]) * (partsR p rp σ * partsX x σ)) R]
  (hk : ∀ H', Holds (blk pb (.cells false [vp p, vp x]) * (partsR p rp σ * partsX x σ) * R) H' → wp (k (vi σ.μ.E.length, H') (vb false)) Q) :
  wp (gld (vb false) false [.f 0] (vp pb) H fun v29 =>
   gld (vb false) false [.n, .f 0] v29 H fun v30 =>
   (gE (vb false) false H (FF n_mem_Mem_Len [v30] H)).bind fun r31 =>
   gad (vb false) false [.f 1] (vp pb) fun v32 =>
   (gB (vb false) false (pLd1 v32 r31.2)).bind fun v33 =>
   eqK (pLd1 v32 H) (pLd1 v32 r31.2) <|
   gad (vb false) false [.n, .f 5] v33 fun v34 =>
   (gB (vb false) false (pLd1 v34 r31.2)).bind fun v35 =>
   eqK (pLd1 v34 H) (pLd1 v34 r31.2) <|
   gad (vb false) false [.n, .f 2] v35 fun v36 =>
   (gB (vb false) false (pLd1 v36 r31.2)).bind fun v37 =>
   eqK (pLd1 v36 H) (pLd1 v36 r31.2) <|
   (onK (yv (vb false)) false (lenK v37 some) (some undef)).bind fun v38 =>
   eqK (lenR v37) (lenR v37) <|
   (gB (vb false) false (pBin .other .neq r31.1 v38)).bind fun v39 =>
   (pPick (vb false) (vb true) v39).bind (k r31)) Q := by
 have h0 := Holds.fr (A := blk pb (.cells false [vp p, vp x]) * (partsR p rp σ * partsX x σ)) h
 obtain ⟨g, hrp, hg, k1⟩ := partsR_open (p := p) (rp := rp) (σ := σ) (R := partsX x σ * (blk pb (.cells false [vp p, vp x]) * R)) (H := H) h0.to
 obtain ⟨gx, hgx, l1⟩ := partsX_open (p := x) (σ := σ) (R := partsB p g σ * (blk pb (.cells false [vp p, vp x]) * R)) (H := H) k1.to
 obtain ⟨kv, vv, ev, Z, m1, back⟩ := partsXB_E (x := x) (g := gx) (σ := σ) (R := partsB p g σ * (blk pb (.cells false [vp p, vp x]) * R)) (H := H) l1.to
 with_reducible repeat refine gg ?_
 refine w_ld m1 end_f0 rfl ?_
 with_reducible repeat refine gg ?_
 refine w_ld m1 end_nf rfl ?_
 have bl : Sp n_mem_Mem_Len [vp g.m] (partsB p g σ) (fun _ : Unit => vi σ.μ.E.length) (fun _ => partsB p g σ) := B_mem (p := p) (g := g) (σ := σ) (mem_len g.m σ.μ)
 refine w_gE_ff ?_
 refine w_call m1 bl fun _ H2 m2 => ?_
 have gadff : ∀ {o : List Stp} {y : Value} {kk : Value → OV}, wp (ad o y kk) Q → wp (gad (vb false) false o y kk) Q := fun {o y kk} q => by rw [gad_on]; exact q
 refine gadff ?_
 refine w_ad end_f0 ?_
 refine w_gB_ff ?_
 refine w_Ld1 m2 rfl ?_
 refine w_eq1 m1 m2 (by rfl) ?_
 refine gadff ?_
 refine w_ad end_nf ?_
 refine w_gB_ff ?_
 refine w_Ld1 m2 rfl ?_
 refine w_eq1 m1 m2 (by rfl) ?_
 refine gadff ?_
 refine w_ad end_nf ?_
 refine w_gB_ff ?_
 refine w_Ld1 m2 rfl ?_
 refine w_eq1 m1 m2 (by rfl) ?_
 refine w_onK_ff ?_
 refine w_rlenB (s := ev) (l := σ.μ.E) m2 ?_
 refine w_eqK_rfl ?_
 refine w_gB_ff ?_
 refine w_bind (neq_f rfl) ?_
 refine w_bind (pick_f _ _) ?_
 refine hk H2 ?_
 have m3 := back (R' := partsB p g σ * (blk pb (.cells false [vp p, vp x]) * R)) (H' := H2) m2.to
 have m4 := partsX_close (p := x) (σ := σ) (R := partsB p g σ * (blk pb (.cells false [vp p, vp x]) * R)) gx hgx m3
 have m5 := partsR_close (p := p) (rp := rp) (σ := σ) (R := partsX x σ * (blk pb (.cells false [vp p, vp x]) * R)) (H := H2) g hrp hg m4.to
 exact m5.to
def aloneE : Nat → Sta → Tk → Int → Option (Sta × Tk × Int)
 | 0, _, _, _ => none
 | n + 1, σ, t, now => if (stepE σ t now).2.2 = true then some ((stepE σ t now).1, (stepE σ t now).2.1, now + 1) else aloneE n (stepE σ t now).1 (stepE σ t now).2.1 (now + 1)
theorem alone_kept : ∀ (n : Nat) (σ : Sta) (t : Tk) (now : Int) (k : Nat) (res : Sta × Tk × Int), SI σ k → TOk σ t → aloneE n σ t now = some res → SI res.1 (k + 3 * n) ∧ res.1.c = σ.c ∧ now < res.2.2 ∧ res.2.2 ≤ now + n := by
 intro n
 induction n with
 | zero => intro σ t now k res _ _ h; cases h
 | succ n ih =>
  intro σ t now k res S T h
  have K := step_kept now S T
  unfold aloneE at h
  by_cases hd : (stepE σ t now).2.2 = true
  ·rw [if_pos hd] at h
   obtain rfl := Option.some.inj h
   exact ⟨K.si.mono (by omega), K.c, by show now < now + 1; omega, by show now + 1 ≤ _; omega⟩
  ·rw [if_neg hd] at h
   obtain ⟨h1, h2, h3, h4⟩ := ih _ _ _ _ _ K.si (K.ok (by simpa using hd)) h
   exact ⟨h1.mono (by omega), h2.trans K.c, by omega, by omega⟩
section
variable (p x : Nat) (rp : List Nat)
theorem alone_loop (now most : Int) (pb rb e xb : Nat) (x13 x14 : Value) (res : Sta × Tk × Int) (hnow : 0 ≤ now ∧ now < 1000000) (hm : most < 1000) {R : SP} :
  ∀ (fuel k K : Nat) (σ : Sta) (t : Tk) (H : AH), (k : Int) + fuel = most → aloneE fuel σ t (now + k) = some res → SI σ K → TOk σ t → K + 3 * fuel < 300000 →
   Holds (blk pb (.cells false [vp p, vp x]) * (blk rb (.cells false [vi 0, .slice none 0 0, vi 0, vw 0]) * (eT e p rp t * (partsR p rp σ * (xT xb x t * (partsX x σ * R)))))) H →
   wp (lAl_k7 (vi now) (vi most) (vp pb) (vp rb) x13 x14 (vp e) (vp xb) (vi (k : Int)) H) fun v' H' => v' = .tuple #[.agg (retC res.2.1.code).toArray, vi res.2.2, vb true] ∧ Holds (partsR p rp res.1 * partsX x res.1 * R) H' := by
 intro fuel
 induction fuel with
 | zero => intro k K σ t H _ h; cases h
 | succ fuel ih =>
  intro k K σ t H hk ha S T hK h
  have K1 := step_kept (now + k) S T
  unfold aloneE at ha
  refine wp_eq (lAl_k7_eq ..) ?_
  refine w_bind (lss_t (by omega)) ?_
  with_reducible repeat refine gg ?_
  refine wp_eq (lAl_k8_eq ..) ?_
  refine w_bind (bin_add_i (by omega) (by omega)) ?_
  have h1 : Holds (eP e p rp σ t * (blk pb (.cells false [vp p, vp x]) * (blk rb (.cells false [vi 0, .slice none 0 0, vi 0, vw 0]) * (xT xb x t * (partsX x σ * R))))) H := by
   rw [eP_eT, sep_assoc]; exact h.to
  refine w_call h1 (enq_step e p rp σ t (now + k) (S.ok (by omega)) T) fun _ H2 h2 => ?_
  refine w_bind (v := .agg (retC (if (stepE σ t (now + k)).2.2 = true then (stepE σ t (now + k)).2.1.code else 0)).toArray) rfl ?_
  refine w_bind (v := vb (stepE σ t (now + k)).2.2) rfl ?_
  refine w_new h2 fun qb H3 h3 => ?_
  refine w_St h3 rfl rfl fun H4 h4 => ?_
  refine w_bind (bin_add_i (by omega) (by omega)) ?_
  have h5 : Holds (xP xb x σ t * (eQ e p rp (stepE σ t (now + k)) * (blk qb (.cells false (retC (if (stepE σ t (now + k)).2.2 = true then (stepE σ t (now + k)).2.1.code else 0))) * (blk pb (.cells false [vp p, vp x]) * (blk rb (.cells false [vi 0, .slice none 0 0, vi 0, vw 0]) * R))))) H4 := by
   rw [xP_xT, sep_assoc]; exact h4.to
  refine w_call h5 (xenq_step xb x σ t (now + k) (S.ok (by omega)) T) fun _ H6 h6 => ?_
  refine w_bind (neq_bb _) ?_
  rw [xQ_xU, eQ_eU] at h6
  refine w_gB_ff ?_
  refine w_LdN h6 ?_
  with_reducible repeat refine gg ?_
  refine w_call h6 (told_law x xb (stepE σ t (now + k))) fun _ H7 h7 => ?_
  refine w_eqN h7 h6 (by rfl) ?_
  refine w_gE_ff ?_
  refine w_call h7 (help_ret _) fun _ H8 h8 => ?_
  refine w_gB_ff ?_
  refine w_bind un_not ?_
  rw [Bool.not_true]
  refine w_bind (pick_f _ _) ?_
  refine w_lens (p := p) (x := x) (pb := pb) (rp := rp) (σ := (stepE σ t (now + k)).1) h8 fun H9 h9 => ?_
  with_reducible repeat refine gg ?_
  cases hd : (stepE σ t (now + k)).2.2
  ·rw [hd] at ha
   rw [if_neg (by simp)] at ha
   with_reducible repeat refine gg ?_
   refine wp_eq (lAl_k9_eq ..) ?_
   refine w_bind (bin_add_i (by omega) (by omega)) ?_
   rw [show ((k : Nat) : Int) + 1 = ((k + 1 : Nat) : Int) from by omega]
   rw [eU_go hd, xU_go hd] at h9
   refine ih (k + 1) (K + 3) _ _ H9 (by omega) (by rw [← ha]; congr 1; omega) K1.si (K1.ok hd) (by omega) h9.to
  ·rw [hd, if_pos rfl] at ha
   obtain rfl := Option.some.inj ha
   rw [hd, if_pos rfl] at h9
   with_reducible repeat refine gg ?_
   refine w_LdN h9 ?_
   refine w_bind (bin_add_i (by omega) (by omega)) ?_
   refine w_bind (bin_add_i (by omega) (by omega)) ?_
   refine w_St h9 rfl rfl fun HA hA => ?_
   refine w_LdN hA ?_
   exact w_ret ⟨rfl, hA.to⟩
theorem pair_alone (σ : Sta) (K : Nat) (S : SI σ K) (who place : Int) (c : Cl) (now : Int) (fuel : Nat) (hnow : 0 ≤ now ∧ now < 1000000) (hm : fuel < 1000) (hK : K + 1 + 3 * fuel < 300000) (res : Sta × Tk × Int)
  (ha : aloneE fuel (σ.begin who place) (Tk.new σ.c who c) now = some res) :
  Sp n_lAl [.agg [vp p, vp x].toArray, vi who, vi place, .agg (Cl.cells c).toArray, vi now, vi (fuel : Int)] (partsR p rp σ * partsX x σ) (fun _ : Unit => .tuple #[.agg (retC res.2.1.code).toArray, vi res.2.2, vb true]) (fun _ => partsR p rp res.1 * partsX x res.1) := by
 have S1 := S.begin who place
 have hb : rightB (σ.begin who place).c = true := S.c
 refine sp_of fun R H h => ?_
 refine wp_of (fun r => lAl_of _ _ _ _ _ _ H) ?_
 refine w_newC (l := [vp p, vp x]) h fun pb H1 h1 => ?_
 refine w_newC h1 fun cb H2 h2 => ?_
 refine w_new h2 fun rb H3 h3 => ?_
 refine w_LdN h3 ?_
 refine w_call h3 (pair_begin p x rp σ who place (by have := S.N; omega)) fun _ H4 h4 => ?_
 refine w_ld h4 end_f0 rfl ?_
 refine w_LdN h4 ?_
 refine w_call h4 (enq_newR p rp (σ.begin who place) hb who c) fun e H5 h5 => ?_
 refine w_ad end_f0 ?_
 refine w_Ld1 h5 rfl ?_
 refine w_eq1 h4 h5 (by rfl) ?_
 refine w_LdN h5 ?_
 refine w_eqN h4 h5 rfl ?_
 refine w_call h5 (r16_newTask x (σ.begin who place) who c 0) fun xb H6 h6 => ?_
 refine w_bind (v := vb false) rfl ?_
 with_reducible repeat refine gg ?_
 refine wp_eq (lAl_k0_eq ..) ?_
 refine wp_eq (lAl_k5_eq ..) ?_
 refine wp_imp ?_ (alone_loop p x rp now fuel pb rb e xb (vi 0) (vb false) res hnow (by omega) (R := R) fuel 0 (K + 1) (σ.begin who place) (Tk.new σ.c who c) H6 (by omega) (by rw [← ha]; congr 1; omega) S1 (TOk.new hb who c) (by omega) h6.to)
 rintro v' H' ⟨rfl, h7⟩
 exact ⟨(), rfl, h7⟩
end
def Words (V : Loc → Nat) (k : Nat) : Prop := ∀ o : Int, wRight (V (11, o, 0)) = true ∧ wState (V (11, o, 0)) ≠ 2 ∧ wCount (V (11, o, 0)) ≤ k
theorem Words.mono {V : Loc → Nat} {k k' : Nat} (h : Words V k) (hk : k ≤ k') : Words V k' := fun o => ⟨(h o).1, (h o).2.1, Nat.le_trans (h o).2.2 hk⟩
theorem Words.put {V : Loc → Nat} {k : Nat} (h : Words V k) (l : Loc) (v : Nat) (hl : l.1 ≠ 11) : Words (fun x => if x = l then v else V x) k := by
 intro o
 show wRight (if ((11 : Int), o, (0 : Int)) = l then v else V (11, o, 0)) = true ∧ wState (if ((11 : Int), o, (0 : Int)) = l then v else V (11, o, 0)) ≠ 2 ∧ wCount (if ((11 : Int), o, (0 : Int)) = l then v else V (11, o, 0)) ≤ k
 rw [if_neg (fun e => hl (by rw [← e]))]
 exact h o
theorem word_one {n : Nat} (hn : n < 2305843009213693951) : wRight (n + 1 + 2305843009213693952) = true ∧ wState (n + 1 + 2305843009213693952) ≠ 2 ∧ wCount (n + 1 + 2305843009213693952) = n + 1 := by
 have h1 : (n + 1 + 2305843009213693952) / 2305843009213693952 = 1 := by omega
 have h2 : (n + 1 + 2305843009213693952) % 2305843009213693952 = n + 1 := by omega
 have hr : wRight (n + 1 + 2305843009213693952) = true := by rw [wRight, h1]; rfl
 refine ⟨hr, ?_, ?_⟩
 ·rw [wState, if_pos hr, h1]; decide
 ·rw [wCount, if_pos hr, h2]
theorem Words.claim {V : Loc → Nat} {k n : Nat} (h : Words V k) (hk : k < 2305843009213693950) (o : Int) (w : Nat) (hn : wTurn w 0 = some n) (hw : wCount w ≤ k) : Words (fun x => if x = (11, o, 0) then n else V x) (k + 1) := by
 intro o'
 show wRight (if ((11 : Int), o', (0 : Int)) = (11, o, 0) then n else V (11, o', 0)) = true ∧ wState (if ((11 : Int), o', (0 : Int)) = (11, o, 0) then n else V (11, o', 0)) ≠ 2 ∧ wCount (if ((11 : Int), o', (0 : Int)) = (11, o, 0) then n else V (11, o', 0)) ≤ k + 1
 split
 ·have hn' : (if wRight w = true ∧ wState w ≠ 2 ∧ wCount w < 2305843009213693951 then some (wCount w + 1 + 2305843009213693952) else none) = some n := hn
  split at hn'
  ·obtain rfl := Option.some.inj hn'
   have := word_one (n := wCount w) (by omega)
   exact ⟨this.1, this.2.1, by rw [this.2.2]; omega⟩
  ·cases hn'
 ·exact ⟨(h o').1, (h o').2.1, Nat.le_trans (h o').2.2 (by omega)⟩
theorem swp_hit {μ : Mu} {who : Int} {l : Loc} {was now : Nat} (h : μ.V l = was) : (μ.swp who l was now).V = fun x => if x = l then now else μ.V x := by
 show (μ.swap who l was now).V = _
 unfold Mu.swap
 rw [if_pos h]
theorem put_ne {V : Loc → Nat} {l x : Loc} {v y : Nat} (hv : V x = y) (h : x ≠ l) : (if x = l then v else V x) = y := (if_neg h).trans hv
structure JS (σ : Sta) (k : Nat) : Prop where
 words : Words σ.μ.V k
 seq : σ.μ.V (2, 0, 0) = 0
 mx : ∀ s : Int, σ.μ.V (8, s, 0) = 0
structure JA (σ : Sta) (t : Tk) (k : Nat) : Prop where
 words : Words σ.μ.V k
 seq : σ.μ.V (2, 0, 0) = 0
 mx : ∀ s : Int, s ≠ t.s → σ.μ.V (8, s, 0) = 0
 mutS : t.at' ≠ 4 → t.at' ≠ 5 → σ.μ.V (8, t.s, 0) = 0
 w : t.at' = 8 ∨ t.at' = 9 ∨ t.at' = 12 ∨ t.at' = 13 ∨ t.at' = 17 → t.w = σ.μ.V (11, (t.obj : Int), 0)
 full : t.at' = 15 ∨ t.at' = 16 ∨ t.at' = 17 → fullW (σ.μ.V (11, (t.obj : Int), 0)) (σ.μ.V (12, (t.obj : Int), 0)) (cellsOf' σ t.obj).length = true
 q : t.at' = 16 ∨ t.at' = 17 ∨ t.at' = 18 → t.q = 0
 top : t.at' = 23 ∨ t.at' = 24 → t.top = σ.μ.V (9, t.s, 0)
 ne : t.at' ≠ 20
theorem JA.new {σ : Sta} {k : Nat} (h : JS σ k) (who : Int) (x : Cl) : JA σ (Tk.new σ.c who x) k :=
 ⟨h.words, h.seq, fun s _ => h.mx s, fun _ _ => h.mx _, (fun h => by simp at h), (fun h => by simp at h), (fun h => by simp at h), (fun h => by simp at h), (by simp)⟩
def rk (σ : Sta) (t : Tk) : Nat := match t.at' with
 | 0 => 39 | 2 => 30 + (σ.c.sl.toNat - t.i) | 3 => 29 | 4 => 20 + (σ.c.sl.toNat - t.i) | 5 => 19 | 6 => 18 | 7 => 17 | 8 => 16 | 9 => 15 | 10 => 14 | 11 => 13 | 12 => 15 | 13 => 14 | 14 => 13
 | 15 => 15 | 16 => 14 | 17 => 13 | 18 => 12 | 21 => 12 | 22 => 11 | 23 => 10 | 24 => 9 | 25 => 8 | _ => 40
def Goes (σ : Sta) (t : Tk) (r : Sta × Tk × Bool) (k : Nat) : Prop := (r.2.2 = true → JS r.1 (k + 3)) ∧ (r.2.2 = false → JA r.1 r.2.1 (k + 3) ∧ rk r.1 r.2.1 < rk σ t)
theorem scan_goes {σ : Sta} {t : Tk} {k : Nat} (h : SI σ k) (T : TOk σ t) (J : JA σ t k) (hat : t.at' = 0 ∨ t.at' = 2) : Goes σ t (scanE σ t) k := by
 have hc := rightB_iff.1 h.c
 have hi := T.i (by omega) (by omega)
 refine ⟨(fun h => by cases h), fun _ => ?_⟩
 have hm := J.mutS (by omega) (by omega)
 have hr : 30 + (σ.c.sl.toNat - t.i) ≤ rk σ t := by
  rcases hat with hat | hat
  ·simp only [rk, hat]; omega
  ·simp only [rk, hat]; omega
 cases hf : (scanT σ t).found with
 | true =>
  have e : scanE σ t = (scanM σ t, { scanT σ t with at' := 6 }, false) := by simp only [scanE, hf]; rfl
  rw [e]
  refine ⟨⟨J.words.mono (by omega), J.seq, J.mx, fun _ _ => hm, (fun h => by simp at h), (fun h => by simp at h), (fun h => by simp at h), (fun h => by simp at h), (by simp)⟩, ?_⟩
  have : rk (scanM σ t) { scanT σ t with at' := 6 } = 18 := rfl
  show rk (scanM σ t) { scanT σ t with at' := 6 } < _
  omega
 | false =>
  cases hla : lastT σ (scanT σ t) with
  | true =>
   have e : scanE σ t = (scanM σ t, { scanT σ t with at' := 3 }, false) := by simp only [scanE, hf, hla]; rfl
   rw [e]
   refine ⟨⟨J.words.mono (by omega), J.seq, J.mx, fun _ _ => hm, (fun h => by simp at h), (fun h => by simp at h), (fun h => by simp at h), (fun h => by simp at h), (by simp)⟩, ?_⟩
   have : rk (scanM σ t) { scanT σ t with at' := 3 } = 29 := rfl
   show rk (scanM σ t) { scanT σ t with at' := 3 } < _
   omega
  | false =>
   have e : scanE σ t = (scanM σ t, { scanT σ t with at' := 2 }, false) := by simp only [scanE, hf, hla]; rfl
   rw [e]
   refine ⟨⟨J.words.mono (by omega), J.seq, J.mx, fun _ _ => hm, (fun h => by simp at h), (fun h => by simp at h), (fun h => by simp at h), (fun h => by simp at h), (by simp)⟩, ?_⟩
   have : rk (scanM σ t) { scanT σ t with at' := 2 } = 30 + (σ.c.sl.toNat - (t.i + 1)) := rfl
   show rk (scanM σ t) { scanT σ t with at' := 2 } < _
   omega
theorem step_goes {σ : Sta} {t : Tk} {k : Nat} (now : Int) (hk : k < 300000) (h : SI σ k) (T : TOk σ t) (J : JA σ t k) : Goes σ t (stepE σ t now) k := by
 rcases T.ats with hat | hat | hat | hat | hat | hat | hat | hat | hat | hat | hat | hat | hat | hat | hat | hat | hat | hat | hat | hat | hat | hat | hat | hat
 ·-- 0
  have hm := J.mutS (by omega) (by omega)
  have hall : ∀ s : Int, σ.μ.V (8, s, 0) = 0 := fun s => by
   by_cases e : s = t.s
   ·rw [e]; exact hm
   ·exact J.mx s e
  cases hx : refusal t.x with
  | some e =>
   have hs : stepE σ t now = (σ.note now t.who e, { t with code := e }, true) := by simp only [stepE, hat, hx]
   rw [hs]
   exact ⟨fun _ => ⟨J.words.mono (by omega), J.seq, hall⟩, (fun h => by cases h)⟩
  | none =>
   have hs : stepE σ t now = scanE σ t := by simp only [stepE, hat, hx, scanE]
   rw [hs]
   exact scan_goes h T J (.inl hat)
 ·-- 2
  have hs : stepE σ t now = scanE σ t := by simp only [stepE, hat, scanE]
  rw [hs]
  exact scan_goes h T J (.inr hat)
 ·-- 3
  have hm := J.mutS (by omega) (by omega)
  have hall : ∀ s : Int, σ.μ.V (8, s, 0) = 0 := fun s => by
   by_cases e : s = t.s
   ·rw [e]; exact hm
   ·exact J.mx s e
  have hv := swp_hit (μ := σ.μ) (who := t.who) (l := (8, t.s, 0)) (was := 0) (now := 1) hm
  have hs : stepE σ t now = (σ.mem (σ.μ.swp t.who (8, t.s, 0) 0 1), { t with at' := 4, i := 0 }, false) := by simp only [stepE, hat]; rw [if_pos hm]
  rw [hs]
  refine ⟨(fun h => by cases h), fun _ => ⟨⟨by show Words (σ.μ.swp t.who (8, t.s, 0) 0 1).V _; rw [hv]; exact (J.words.mono (by omega)).put _ _ (by simp), by show (σ.μ.swp t.who (8, t.s, 0) 0 1).V (2, 0, 0) = 0; rw [hv]; exact put_ne J.seq (by simp), fun s hs => by show (σ.μ.swp t.who (8, t.s, 0) 0 1).V (8, s, 0) = 0; rw [hv]; exact put_ne (J.mx s hs) (by intro e; exact hs (by simpa using e)), (fun h => by simp at h), (fun h => by simp at h), (fun h => by simp at h), (fun h => by simp at h), (fun h => by simp at h), (by simp)⟩, ?_⟩⟩
  show rk (σ.mem (σ.μ.swp t.who (8, t.s, 0) 0 1)) ({ t with at' := 4, i := 0 }) < rk σ t
  simp only [rk, hat]
  have := h.c; have := rightB_iff.1 this; omega
 ·-- 4
  have hi := T.i (by omega) (by omega)
  cases hf : (scanT σ t).found with
  | true =>
   have hs : stepE σ t now = (scanM σ t, { scanT σ t with at' := 5 }, false) := by simp only [stepE, hat, hf]; rfl
   rw [hs]
   refine ⟨(fun h => by cases h), fun _ => ⟨⟨J.words.mono (by omega), J.seq, J.mx, (fun _ h => by simp at h), (fun h => by simp at h), (fun h => by simp at h), (fun h => by simp at h), (fun h => by simp at h), (by simp)⟩, ?_⟩⟩
   show rk (scanM σ t) ({ scanT σ t with at' := 5 }) < rk σ t
   simp only [rk, hat]
   omega
  | false =>
   cases hla : lastT σ (scanT σ t) with
   | true =>
    have hs : stepE σ t now = ((scanM σ t).note now t.who 5, { scanT σ t with at' := 5, code := 5 }, false) := by simp only [stepE, hat, hf, hla]; rfl
    rw [hs]
    refine ⟨(fun h => by cases h), fun _ => ⟨⟨J.words.mono (by omega), J.seq, J.mx, (fun _ h => by simp at h), (fun h => by simp at h), (fun h => by simp at h), (fun h => by simp at h), (fun h => by simp at h), (by simp)⟩, ?_⟩⟩
    show rk ((scanM σ t).note now t.who 5) ({ scanT σ t with at' := 5, code := 5 }) < rk σ t
    simp only [rk, hat]
    omega
   | false =>
    have ea : (scanT σ t).at' = 4 := hat
    have hs : stepE σ t now = (scanM σ t, scanT σ t, false) := by simp only [stepE, hat, hf, hla]; rfl
    rw [hs]
    refine ⟨(fun h => by cases h), fun _ => ⟨⟨J.words.mono (by omega), J.seq, J.mx, (fun h => absurd ea h), (fun h => by rw [ea] at h; simp at h), (fun h => by rw [ea] at h; simp at h), (fun h => by rw [ea] at h; simp at h), (fun h => by rw [ea] at h; simp at h), (by rw [ea]; simp)⟩, ?_⟩⟩
    show rk (scanM σ t) (scanT σ t) < rk σ t
    have e1 : (scanT σ t).i = t.i + 1 := rfl
    simp only [rk, hat, ea, e1]
    have := rightB_iff.1 h.c
    show 20 + (σ.c.sl.toNat - (t.i + 1)) < _
    omega
 ·-- 5
  have hall : ∀ s : Int, (if ((8 : Int), s, (0 : Int)) = (8, t.s, 0) then 0 else σ.μ.V (8, s, 0)) = 0 := fun s => by
   by_cases e : s = t.s
   ·rw [e, if_pos rfl]
   ·rw [if_neg (by intro q; exact e (by simpa using q))]; exact J.mx s e
  cases hf : t.found with
  | false =>
   have hs : stepE σ t now = (σ.mem ((σ.μ.acc t.who 2 (8, t.s, 0)).put (8, t.s, 0) 0), { t with at' := 6 }, true) := by simp only [stepE, hat, hf]; rfl
   rw [hs]
   exact ⟨fun _ => ⟨(J.words.mono (by omega)).put _ _ (by simp), put_ne (l := (8, t.s, 0)) (v := 0) J.seq (by simp), hall⟩, (fun h => by cases h)⟩
  | true =>
   have hs : stepE σ t now = (σ.mem ((σ.μ.acc t.who 2 (8, t.s, 0)).put (8, t.s, 0) 0), { t with at' := 6 }, false) := by simp only [stepE, hat, hf]; rfl
   rw [hs]
   refine ⟨(fun h => by cases h), fun _ => ⟨⟨(J.words.mono (by omega)).put _ _ (by simp), put_ne (l := (8, t.s, 0)) (v := 0) J.seq (by simp), (fun s _ => hall s), (fun _ _ => hall _), (fun h => by simp at h), (fun h => by simp at h), (fun h => by simp at h), (fun h => by simp at h), (by simp)⟩, ?_⟩⟩
   show rk (σ.mem ((σ.μ.acc t.who 2 (8, t.s, 0)).put (8, t.s, 0) 0)) ({ t with at' := 6 }) < rk σ t
   simp only [rk, hat]
   omega
 ·-- 6
  have hm := J.mutS (by omega) (by omega)
  have hall : ∀ s : Int, σ.μ.V (8, s, 0) = 0 := fun s => by
   by_cases e : s = t.s
   ·rw [e]; exact hm
   ·exact J.mx s e
  have hs : stepE σ t now = (σ.mem (σ.μ.acc t.who 5 (13, (t.obj : Int), 0)), { t with at' := 7 }, false) := by simp only [stepE, hat]
  rw [hs]
  refine ⟨(fun h => by cases h), fun _ => ⟨⟨J.words.mono (by omega), J.seq, J.mx, (fun _ _ => hm), (fun h => by simp at h), (fun h => by simp at h), (fun h => by simp at h), (fun h => by simp at h), (by simp)⟩, ?_⟩⟩
  show rk (σ.mem (σ.μ.acc t.who 5 (13, (t.obj : Int), 0))) ({ t with at' := 7 }) < rk σ t
  simp only [rk, hat]
  omega
 ·-- 7
  have hm := J.mutS (by omega) (by omega)
  have hall : ∀ s : Int, σ.μ.V (8, s, 0) = 0 := fun s => by
   by_cases e : s = t.s
   ·rw [e]; exact hm
   ·exact J.mx s e
  have hs : stepE σ t now = (wordM σ t, { t with w := σ.μ.V (11, (t.obj : Int), 0), at' := 8 }, false) := by simp only [stepE, hat]; rw [if_neg (J.words (t.obj : Int)).2.1]
  rw [hs]
  refine ⟨(fun h => by cases h), fun _ => ⟨⟨J.words.mono (by omega), J.seq, J.mx, (fun _ _ => hm), (fun _ => rfl), (fun h => by simp at h), (fun h => by simp at h), (fun h => by simp at h), (by simp)⟩, ?_⟩⟩
  show rk (wordM σ t) ({ t with w := σ.μ.V (11, (t.obj : Int), 0), at' := 8 }) < rk σ t
  simp only [rk, hat]
  omega
 ·-- 8
  have hm := J.mutS (by omega) (by omega)
  have hall : ∀ s : Int, σ.μ.V (8, s, 0) = 0 := fun s => by
   by_cases e : s = t.s
   ·rw [e]; exact hm
   ·exact J.mx s e
  have hw0 := J.w (.inl hat)
  cases hf : fullT σ t with
  | true =>
   have hs : stepE σ t now = (headM σ t, { t with at' := 15 }, false) := by simp only [stepE, hat, hf]; rfl
   rw [hs]
   have hf2 : fullW (σ.μ.V (11, (t.obj : Int), 0)) (σ.μ.V (12, (t.obj : Int), 0)) (cellsOf' σ t.obj).length = true := by rw [← hw0]; exact hf
   refine ⟨(fun h => by cases h), fun _ => ⟨⟨J.words.mono (by omega), J.seq, J.mx, (fun _ _ => hm), (fun h => by simp at h), (fun _ => hf2), (fun h => by simp at h), (fun h => by simp at h), (by simp)⟩, ?_⟩⟩
   show rk (headM σ t) ({ t with at' := 15 }) < rk σ t
   simp only [rk, hat]
   omega
  | false =>
   by_cases hw : wState t.w = 1
   ·have hs : stepE σ t now = (headM σ t, { t with at' := 9 }, false) := by simp only [stepE, hat, hf]; rw [if_pos hw]; rfl
    rw [hs]
    refine ⟨(fun h => by cases h), fun _ => ⟨⟨J.words.mono (by omega), J.seq, J.mx, (fun _ _ => hm), (fun _ => hw0), (fun h => by simp at h), (fun h => by simp at h), (fun h => by simp at h), (by simp)⟩, ?_⟩⟩
    show rk (headM σ t) ({ t with at' := 9 }) < rk σ t
    simp only [rk, hat]
    omega
   ·have hs : stepE σ t now = (headM σ t, { t with at' := 12 }, false) := by simp only [stepE, hat, hf]; rw [if_neg hw]; rfl
    rw [hs]
    refine ⟨(fun h => by cases h), fun _ => ⟨⟨J.words.mono (by omega), J.seq, J.mx, (fun _ _ => hm), (fun _ => hw0), (fun h => by simp at h), (fun h => by simp at h), (fun h => by simp at h), (by simp)⟩, ?_⟩⟩
    show rk (headM σ t) ({ t with at' := 12 }) < rk σ t
    simp only [rk, hat]
    omega
 ·-- 9
  have hm := J.mutS (by omega) (by omega)
  have hall : ∀ s : Int, σ.μ.V (8, s, 0) = 0 := fun s => by
   by_cases e : s = t.s
   ·rw [e]; exact hm
   ·exact J.mx s e
  have hw0 := J.w (.inr (.inl hat))
  obtain ⟨q1, q2, q3⟩ := J.words (t.obj : Int)
  rw [← hw0] at q1 q2 q3
  have hn : wTurn t.w 0 = some (wCount t.w + 1 + 2305843009213693952) := wT0_s ⟨q1, q2, by omega⟩
  obtain ⟨n, hn'⟩ : ∃ n, n = wCount t.w + 1 + 2305843009213693952 := ⟨_, rfl⟩
  rw [← hn'] at hn
  have hv := swp_hit (μ := σ.μ) (who := t.who) (l := (11, (t.obj : Int), 0)) (was := t.w) (now := n) hw0.symm
  have htu : turned σ.μ t.obj t.w (wTurn t.w 0) = true := by rw [hn]; show (true && decide (σ.μ.V (11, (t.obj : Int), 0) = t.w)) = true; rw [decide_eq_true hw0.symm]; rfl
  have hs : stepE σ t now = ((σ.mem (σ.μ.swp t.who (11, (t.obj : Int), 0) t.w n)).note now t.who 0, { t with at' := 10, code := 0 }, false) := by simp only [stepE, hat, htu]; rw [hn]; rfl
  rw [hs]
  refine ⟨(fun h => by cases h), fun _ => ⟨⟨by show Words (σ.μ.swp t.who (11, (t.obj : Int), 0) t.w n).V _; rw [hv]; exact (J.words.claim (by omega) (t.obj : Int) t.w hn q3).mono (by omega), by show (σ.μ.swp t.who (11, (t.obj : Int), 0) t.w n).V (2, 0, 0) = 0; rw [hv]; exact put_ne J.seq (by simp), fun s hs => by show (σ.μ.swp t.who (11, (t.obj : Int), 0) t.w n).V (8, s, 0) = 0; rw [hv]; exact put_ne (J.mx s hs) (by simp), fun _ _ => by show (σ.μ.swp t.who (11, (t.obj : Int), 0) t.w n).V (8, t.s, 0) = 0; rw [hv]; exact put_ne hm (by simp), (fun h => by simp at h), (fun h => by simp at h), (fun h => by simp at h), (fun h => by simp at h), (by simp)⟩, ?_⟩⟩
  show rk ((σ.mem (σ.μ.swp t.who (11, (t.obj : Int), 0) t.w n)).note now t.who 0) ({ t with at' := 10, code := 0 }) < rk σ t
  simp only [rk, hat]
  omega
 ·-- 10
  have hm := J.mutS (by omega) (by omega)
  have hall : ∀ s : Int, σ.μ.V (8, s, 0) = 0 := fun s => by
   by_cases e : s = t.s
   ·rw [e]; exact hm
   ·exact J.mx s e
  have hs : stepE σ t now = (layM σ t, { t with at' := 11 }, false) := by simp only [stepE, hat]
  rw [hs]
  refine ⟨(fun h => by cases h), fun _ => ⟨⟨by rw [layM_eq]; exact J.words.mono (by omega), by rw [layM_eq]; exact J.seq, by rw [layM_eq]; exact J.mx, by rw [layM_eq]; exact fun _ _ => hm, (fun h => by simp at h), (fun h => by simp at h), (fun h => by simp at h), (fun h => by simp at h), (by simp)⟩, ?_⟩⟩
  show rk (layM σ t) ({ t with at' := 11 }) < rk σ t
  simp only [rk, hat]
  omega
 ·-- 11
  have hm := J.mutS (by omega) (by omega)
  have hall : ∀ s : Int, σ.μ.V (8, s, 0) = 0 := fun s => by
   by_cases e : s = t.s
   ·rw [e]; exact hm
   ·exact J.mx s e
  have hs : stepE σ t now = (showM σ t, t, true) := by simp only [stepE, hat]
  rw [hs]
  exact ⟨fun _ => ⟨(J.words.mono (by omega)).put _ _ (by simp), put_ne (l := (15, (t.obj : Int), ((wCount t.w % (cellsOf' σ t.obj).length : Nat) : Int))) (v := wCount t.w + 1) J.seq (by simp), (fun s => put_ne (l := (15, (t.obj : Int), ((wCount t.w % (cellsOf' σ t.obj).length : Nat) : Int))) (v := wCount t.w + 1) (hall s) (by simp))⟩, (fun h => by cases h)⟩
 ·-- 12
  have hm := J.mutS (by omega) (by omega)
  have hall : ∀ s : Int, σ.μ.V (8, s, 0) = 0 := fun s => by
   by_cases e : s = t.s
   ·rw [e]; exact hm
   ·exact J.mx s e
  have hs : stepE σ t now = (σ.mem (σ.μ.cnt t.who (3, 0, 0) 4294967296), { t with at' := 13 }, false) := by simp only [stepE, hat]
  rw [hs]
  refine ⟨(fun h => by cases h), fun _ => ⟨⟨(J.words.mono (by omega)).put _ _ (by simp), put_ne (l := (3, 0, 0)) (v := (σ.μ.V (3, 0, 0) + 4294967296) % 18446744073709551616) J.seq (by simp), (fun s hs => put_ne (l := (3, 0, 0)) (v := (σ.μ.V (3, 0, 0) + 4294967296) % 18446744073709551616) (J.mx s hs) (by simp)), (fun _ _ => put_ne (l := (3, 0, 0)) (v := (σ.μ.V (3, 0, 0) + 4294967296) % 18446744073709551616) hm (by simp)), (fun _ => (J.w (.inr (.inr (.inl hat)))).trans (put_ne (l := (3, 0, 0)) (v := (σ.μ.V (3, 0, 0) + 4294967296) % 18446744073709551616) rfl (by simp)).symm), (fun h => by simp at h), (fun h => by simp at h), (fun h => by simp at h), (by simp)⟩, ?_⟩⟩
  show rk (σ.mem (σ.μ.cnt t.who (3, 0, 0) 4294967296)) ({ t with at' := 13 }) < rk σ t
  simp only [rk, hat]
  omega
 ·-- 13
  have hm := J.mutS (by omega) (by omega)
  have hall : ∀ s : Int, σ.μ.V (8, s, 0) = 0 := fun s => by
   by_cases e : s = t.s
   ·rw [e]; exact hm
   ·exact J.mx s e
  have hw0 := J.w (.inr (.inr (.inr (.inl hat))))
  obtain ⟨q1, q2, q3⟩ := J.words (t.obj : Int)
  rw [← hw0] at q1 q2 q3
  have hn : wTurn t.w 0 = some (wCount t.w + 1 + 2305843009213693952) := wT0_s ⟨q1, q2, by omega⟩
  obtain ⟨n, hn'⟩ : ∃ n, n = wCount t.w + 1 + 2305843009213693952 := ⟨_, rfl⟩
  rw [← hn'] at hn
  have hv := swp_hit (μ := σ.μ) (who := t.who) (l := (11, (t.obj : Int), 0)) (was := t.w) (now := n) hw0.symm
  have htu : turned σ.μ t.obj t.w (wTurn t.w 0) = true := by rw [hn]; show (true && decide (σ.μ.V (11, (t.obj : Int), 0) = t.w)) = true; rw [decide_eq_true hw0.symm]; rfl
  have hs : stepE σ t now = ((σ.mem (σ.μ.swp t.who (11, (t.obj : Int), 0) t.w n)).note now t.who 0, { t with at' := 14, code := 0 }, false) := by simp only [stepE, hat, htu]; rw [hn]; rfl
  rw [hs]
  refine ⟨(fun h => by cases h), fun _ => ⟨⟨by show Words (σ.μ.swp t.who (11, (t.obj : Int), 0) t.w n).V _; rw [hv]; exact (J.words.claim (by omega) (t.obj : Int) t.w hn q3).mono (by omega), by show (σ.μ.swp t.who (11, (t.obj : Int), 0) t.w n).V (2, 0, 0) = 0; rw [hv]; exact put_ne J.seq (by simp), fun s hs => by show (σ.μ.swp t.who (11, (t.obj : Int), 0) t.w n).V (8, s, 0) = 0; rw [hv]; exact put_ne (J.mx s hs) (by simp), fun _ _ => by show (σ.μ.swp t.who (11, (t.obj : Int), 0) t.w n).V (8, t.s, 0) = 0; rw [hv]; exact put_ne hm (by simp), (fun h => by simp at h), (fun h => by simp at h), (fun h => by simp at h), (fun h => by simp at h), (by simp)⟩, ?_⟩⟩
  show rk ((σ.mem (σ.μ.swp t.who (11, (t.obj : Int), 0) t.w n)).note now t.who 0) ({ t with at' := 14, code := 0 }) < rk σ t
  simp only [rk, hat]
  omega
 ·-- 14
  have hm := J.mutS (by omega) (by omega)
  have hall : ∀ s : Int, σ.μ.V (8, s, 0) = 0 := fun s => by
   by_cases e : s = t.s
   ·rw [e]; exact hm
   ·exact J.mx s e
  have hs : stepE σ t now = (layM σ t, { t with at' := 21 }, false) := by simp only [stepE, hat]
  rw [hs]
  refine ⟨(fun h => by cases h), fun _ => ⟨⟨by rw [layM_eq]; exact J.words.mono (by omega), by rw [layM_eq]; exact J.seq, by rw [layM_eq]; exact J.mx, by rw [layM_eq]; exact fun _ _ => hm, (fun h => by simp at h), (fun h => by simp at h), (fun h => by simp at h), (fun h => by simp at h), (by simp)⟩, ?_⟩⟩
  show rk (layM σ t) ({ t with at' := 21 }) < rk σ t
  simp only [rk, hat]
  omega
 ·-- 15
  have hm := J.mutS (by omega) (by omega)
  have hall : ∀ s : Int, σ.μ.V (8, s, 0) = 0 := fun s => by
   by_cases e : s = t.s
   ·rw [e]; exact hm
   ·exact J.mx s e
  have hs : stepE σ t now = (seqM σ t, { t with q := σ.μ.V (2, 0, 0), at' := 16 }, false) := by simp only [stepE, hat]; rw [if_neg (by rw [J.seq]; omega)]
  rw [hs]
  refine ⟨(fun h => by cases h), fun _ => ⟨⟨J.words.mono (by omega), J.seq, J.mx, (fun _ _ => hm), (fun h => by simp at h), (fun _ => J.full (.inl hat)), (fun _ => J.seq), (fun h => by simp at h), (by simp)⟩, ?_⟩⟩
  show rk (seqM σ t) ({ t with q := σ.μ.V (2, 0, 0), at' := 16 }) < rk σ t
  simp only [rk, hat]
  omega
 ·-- 16
  have hm := J.mutS (by omega) (by omega)
  have hall : ∀ s : Int, σ.μ.V (8, s, 0) = 0 := fun s => by
   by_cases e : s = t.s
   ·rw [e]; exact hm
   ·exact J.mx s e
  have hs : stepE σ t now = (wordM σ t, { t with w := σ.μ.V (11, (t.obj : Int), 0), at' := 17 }, false) := by simp only [stepE, hat]; rw [if_neg (J.words (t.obj : Int)).2.1]
  rw [hs]
  refine ⟨(fun h => by cases h), fun _ => ⟨⟨J.words.mono (by omega), J.seq, J.mx, (fun _ _ => hm), (fun _ => rfl), (fun _ => J.full (.inr (.inl hat))), (fun _ => J.q (.inl hat)), (fun h => by simp at h), (by simp)⟩, ?_⟩⟩
  show rk (wordM σ t) ({ t with w := σ.μ.V (11, (t.obj : Int), 0), at' := 17 }) < rk σ t
  simp only [rk, hat]
  omega
 ·-- 17
  have hm := J.mutS (by omega) (by omega)
  have hall : ∀ s : Int, σ.μ.V (8, s, 0) = 0 := fun s => by
   by_cases e : s = t.s
   ·rw [e]; exact hm
   ·exact J.mx s e
  have hf : fullT σ t = true := by
   have := J.full (.inr (.inr hat))
   rw [← J.w (.inr (.inr (.inr (.inr hat))))] at this
   exact this
  have hs : stepE σ t now = (headM σ t, { t with at' := 18, mark := now }, false) := by simp only [stepE, hat, hf]; rfl
  rw [hs]
  refine ⟨(fun h => by cases h), fun _ => ⟨⟨J.words.mono (by omega), J.seq, J.mx, (fun _ _ => hm), (fun h => by simp at h), (fun h => by simp at h), (fun _ => J.q (.inr (.inl hat))), (fun h => by simp at h), (by simp)⟩, ?_⟩⟩
  show rk (headM σ t) ({ t with at' := 18, mark := now }) < rk σ t
  simp only [rk, hat]
  omega
 ·-- 18
  have hm := J.mutS (by omega) (by omega)
  have hall : ∀ s : Int, σ.μ.V (8, s, 0) = 0 := fun s => by
   by_cases e : s = t.s
   ·rw [e]; exact hm
   ·exact J.mx s e
  have hs : stepE σ t now = ((seqM σ t).note t.mark t.who 9, { t with code := 9 }, true) := by simp only [stepE, hat]; rw [if_pos (by rw [J.seq, J.q (.inr (.inr hat))])]
  rw [hs]
  exact ⟨fun _ => ⟨J.words.mono (by omega), J.seq, hall⟩, (fun h => by cases h)⟩
 ·-- 20
  exact absurd hat J.ne
 ·-- 21
  have hm := J.mutS (by omega) (by omega)
  have hall : ∀ s : Int, σ.μ.V (8, s, 0) = 0 := fun s => by
   by_cases e : s = t.s
   ·rw [e]; exact hm
   ·exact J.mx s e
  have hs : stepE σ t now = (showM σ t, { t with at' := 22 }, false) := by simp only [stepE, hat]
  rw [hs]
  refine ⟨(fun h => by cases h), fun _ => ⟨⟨(J.words.mono (by omega)).put _ _ (by simp), put_ne (l := (15, (t.obj : Int), ((wCount t.w % (cellsOf' σ t.obj).length : Nat) : Int))) (v := wCount t.w + 1) J.seq (by simp), (fun s hs => put_ne (l := (15, (t.obj : Int), ((wCount t.w % (cellsOf' σ t.obj).length : Nat) : Int))) (v := wCount t.w + 1) (J.mx s hs) (by simp)), (fun _ _ => put_ne (l := (15, (t.obj : Int), ((wCount t.w % (cellsOf' σ t.obj).length : Nat) : Int))) (v := wCount t.w + 1) hm (by simp)), (fun h => by simp at h), (fun h => by simp at h), (fun h => by simp at h), (fun h => by simp at h), (by simp)⟩, ?_⟩⟩
  show rk (showM σ t) ({ t with at' := 22 }) < rk σ t
  simp only [rk, hat]
  omega
 ·-- 22
  have hm := J.mutS (by omega) (by omega)
  have hall : ∀ s : Int, σ.μ.V (8, s, 0) = 0 := fun s => by
   by_cases e : s = t.s
   ·rw [e]; exact hm
   ·exact J.mx s e
  have hs : stepE σ t now = (σ.mem (σ.μ.acc t.who 1 (9, t.s, 0)), { t with top := σ.μ.V (9, t.s, 0), at' := 23 }, false) := by simp only [stepE, hat]
  rw [hs]
  refine ⟨(fun h => by cases h), fun _ => ⟨⟨J.words.mono (by omega), J.seq, J.mx, (fun _ _ => hm), (fun h => by simp at h), (fun h => by simp at h), (fun h => by simp at h), (fun _ => rfl), (by simp)⟩, ?_⟩⟩
  show rk (σ.mem (σ.μ.acc t.who 1 (9, t.s, 0))) ({ t with top := σ.μ.V (9, t.s, 0), at' := 23 }) < rk σ t
  simp only [rk, hat]
  omega
 ·-- 23
  have hm := J.mutS (by omega) (by omega)
  have hall : ∀ s : Int, σ.μ.V (8, s, 0) = 0 := fun s => by
   by_cases e : s = t.s
   ·rw [e]; exact hm
   ·exact J.mx s e
  have hs : stepE σ t now = ({ σ with μ := σ.μ.acc t.who 6 (14, (t.obj : Int), 0), nx := fun k => if k = (t.obj : Int) then some t.top else σ.nx k }, { t with at' := 24 }, false) := by simp only [stepE, hat]
  rw [hs]
  refine ⟨(fun h => by cases h), fun _ => ⟨⟨J.words.mono (by omega), J.seq, J.mx, (fun _ _ => hm), (fun h => by simp at h), (fun h => by simp at h), (fun h => by simp at h), (fun _ => J.top (.inl hat)), (by simp)⟩, ?_⟩⟩
  show rk ({ σ with μ := σ.μ.acc t.who 6 (14, (t.obj : Int), 0), nx := fun k => if k = (t.obj : Int) then some t.top else σ.nx k }) ({ t with at' := 24 }) < rk σ t
  simp only [rk, hat]
  omega
 ·-- 24
  have hm := J.mutS (by omega) (by omega)
  have hall : ∀ s : Int, σ.μ.V (8, s, 0) = 0 := fun s => by
   by_cases e : s = t.s
   ·rw [e]; exact hm
   ·exact J.mx s e
  have hv := swp_hit (μ := σ.μ) (who := t.who) (l := (9, t.s, 0)) (was := t.top) (now := t.obj + 1) (J.top (.inr hat)).symm
  have hs : stepE σ t now = (σ.mem (σ.μ.swp t.who (9, t.s, 0) t.top (t.obj + 1)), { t with at' := 25 }, false) := by simp only [stepE, hat]; rw [if_pos (J.top (.inr hat)).symm]
  rw [hs]
  refine ⟨(fun h => by cases h), fun _ => ⟨⟨by show Words (σ.μ.swp t.who (9, t.s, 0) t.top (t.obj + 1)).V _; rw [hv]; exact (J.words.mono (by omega)).put _ _ (by simp), by show (σ.μ.swp t.who (9, t.s, 0) t.top (t.obj + 1)).V (2, 0, 0) = 0; rw [hv]; exact put_ne J.seq (by simp), fun s hs => by show (σ.μ.swp t.who (9, t.s, 0) t.top (t.obj + 1)).V (8, s, 0) = 0; rw [hv]; exact put_ne (J.mx s hs) (by simp), fun _ _ => by show (σ.μ.swp t.who (9, t.s, 0) t.top (t.obj + 1)).V (8, t.s, 0) = 0; rw [hv]; exact put_ne hm (by simp), (fun h => by simp at h), (fun h => by simp at h), (fun h => by simp at h), (fun h => by simp at h), (by simp)⟩, ?_⟩⟩
  show rk (σ.mem (σ.μ.swp t.who (9, t.s, 0) t.top (t.obj + 1))) ({ t with at' := 25 }) < rk σ t
  simp only [rk, hat]
  omega
 ·-- 25
  have hm := J.mutS (by omega) (by omega)
  have hall : ∀ s : Int, σ.μ.V (8, s, 0) = 0 := fun s => by
   by_cases e : s = t.s
   ·rw [e]; exact hm
   ·exact J.mx s e
  have hs : stepE σ t now = (σ.mem (σ.μ.cnt t.who (3, 0, 0) 1), t, true) := by simp only [stepE, hat]
  rw [hs]
  exact ⟨fun _ => ⟨(J.words.mono (by omega)).put _ _ (by simp), put_ne (l := (3, 0, 0)) (v := (σ.μ.V (3, 0, 0) + 1) % 18446744073709551616) J.seq (by simp), (fun s => put_ne (l := (3, 0, 0)) (v := (σ.μ.V (3, 0, 0) + 1) % 18446744073709551616) (hall s) (by simp))⟩, (fun h => by cases h)⟩
theorem alone_ends : ∀ (n : Nat) (σ : Sta) (t : Tk) (now : Int) (k : Nat), SI σ k → TOk σ t → JA σ t k → rk σ t < n → k + 3 * n < 300000 → ∃ res, aloneE n σ t now = some res ∧ JS res.1 (k + 3 * n) := by
 intro n
 induction n with
 | zero => intro σ t now k _ _ _ h; omega
 | succ n ih =>
  intro σ t now k S T J hr hk
  obtain ⟨g1, g2⟩ := step_goes now (by omega) S T J
  have K := step_kept now S T
  unfold aloneE
  cases hd : (stepE σ t now).2.2 with
  | true =>
   rw [if_pos rfl]
   have j := g1 hd
   exact ⟨_, rfl, ⟨j.words.mono (by omega), j.seq, j.mx⟩⟩
  | false =>
   rw [if_neg (by simp)]
   obtain ⟨j, hlt⟩ := g2 hd
   obtain ⟨res, h1, h2⟩ := ih _ _ (now + 1) (k + 3) K.si (K.ok hd) j (by omega) (by omega)
   exact ⟨res, h1, ⟨h2.words.mono (by omega), h2.seq, h2.mx⟩⟩
def eqVs (f : Value → Value → Bool) : List Value → List Value → Bool
  | [], [] => true
  | x :: xs, y :: ys => f x y && eqVs f xs ys
  | _, _ => false
def eqV : Nat → Value → Value → Bool
  | _, .bool a, .bool b => a == b
  | _, .int k a, .int k' b => decide (k = k') && decide (a = b)
  | _, .string a, .string b => decide (a = b)
  | _, .pointer a, .pointer b => decide (a = b)
  | _, .slice a n e, .slice a' n' e' => decide (a = a') && decide (n = n') && decide (e = e')
  | _, .map a, .map b => decide (a = b)
  | _, .nilFunc, .nilFunc => true
  | _, .nilIface, .nilIface => true
  | n + 1, .agg xs, .agg ys => eqVs (eqV n) xs.toList ys.toList
  | n + 1, .tuple xs, .tuple ys => eqVs (eqV n) xs.toList ys.toList
  | n + 1, .func f xs zs, .func f' ys ws => decide (f = f') && eqVs (eqV n) xs.toList ys.toList && eqVs (eqV n) zs.toList ws.toList
  | _, _, _ => false
theorem eqVs_sound {f : Value → Value → Bool} (hf : ∀ x y, f x y = true → x = y) : ∀ xs ys, eqVs f xs ys = true → xs = ys := by
  intro xs
  induction xs with
  | nil => intro ys h; cases ys with | nil => rfl | cons y ys => simp [eqVs] at h
  | cons x xs ih =>
    intro ys h
    cases ys with
    | nil => simp [eqVs] at h
    | cons y ys =>
      simp only [eqVs, Bool.and_eq_true] at h
      rw [hf _ _ h.1, ih _ h.2]
theorem eqV_sound : ∀ (n : Nat) (x y : Value), eqV n x y = true → x = y := by
  intro n
  induction n with
  | zero =>
    intro x y h
    cases x <;> cases y <;> simp_all [eqV]
  | succ n ih =>
    have hl := eqVs_sound ih
    intro x y h
    cases x <;> cases y <;> simp_all [eqV]
    · exact ⟨Array.toList_inj.1 (hl _ _ h.1.2), Array.toList_inj.1 (hl _ _ h.2)⟩
    · exact Array.toList_inj.1 (hl _ _ h)
    · exact Array.toList_inj.1 (hl _ _ h)
def eqO : Option Value → Option Value → Bool
  | none, none => true
  | some x, some y => eqV 4 x y
  | _, _ => false
theorem eqO_sound {x y : Option Value} (h : eqO x y = true) : x = y := by
  cases x <;> cases y <;> simp_all [eqO]
  exact eqV_sound _ _ _ h
section
variable (g d : Nat)
def shB (b : Nat) : Nat := if b < g then b else b + d
def shA (a : Addr) : Addr := { a with block := shB g d a.block }
def shV : Value → Value
  | .pointer a => .pointer (a.map (shA g d))
  | .slice a n e => .slice (a.map (shA g d)) n e
  | .map r => .map (r.map (shB g d))
  | .func fn f c => .func fn (f.map shV) (c.map shV)
  | .iface t v => .iface t (shV v)
  | .agg cs => .agg (cs.map shV)
  | .tuple cs => .tuple (cs.map shV)
  | v => v
end
abbrev shL (g d : Nat) (l : List Value) : List Value := l.map (shV g d)
section
variable {g d : Nat}
theorem shB_inj {a b : Nat} (h : shB g d a = shB g d b) : a = b := by unfold shB at h; split at h <;> split at h <;> omega
@[simp] theorem sh_bool (b : Bool) : (shV g d) (.bool b) = .bool b := by rw [shV] <;> simp
@[simp] theorem sh_int (k : IntKind) (n : Int) : (shV g d) (.int k n) = .int k n := by rw [shV] <;> simp
@[simp] theorem sh_float (k : FloatKind) (n : Nat) : (shV g d) (.float k n) = .float k n := by rw [shV] <;> simp
@[simp] theorem sh_complex (k : FloatKind) (n m : Nat) : (shV g d) (.complex k n m) = .complex k n m := by rw [shV] <;> simp
@[simp] theorem sh_string (b : ByteArray) : (shV g d) (.string b) = .string b := by rw [shV] <;> simp
@[simp] theorem sh_chan (r : Option Nat) : (shV g d) (.chan r) = .chan r := by rw [shV] <;> simp
@[simp] theorem sh_nilFunc : (shV g d) .nilFunc = .nilFunc := by rw [shV] <;> simp
@[simp] theorem sh_nilIface : (shV g d) .nilIface = .nilIface := by rw [shV] <;> simp
@[simp] theorem sh_pointer (a : Option Addr) : (shV g d) (.pointer a) = .pointer (a.map (shA g d)) := by rw [shV]
@[simp] theorem sh_slice (a : Option Addr) (n e : Nat) : (shV g d) (.slice a n e) = .slice (a.map (shA g d)) n e := by rw [shV]
@[simp] theorem sh_map (r : Option Nat) : (shV g d) (.map r) = .map (r.map (shB g d)) := by rw [shV]
@[simp] theorem sh_iface (t : TypeId) (v : Value) : (shV g d) (.iface t v) = .iface t ((shV g d) v) := by rw [shV]
@[simp] theorem sh_func (fn : Fn) (f c : Array Value) : (shV g d) (.func fn f c) = .func fn (f.map (shV g d)) (c.map (shV g d)) := by rw [shV]
@[simp] theorem sh_agg (cs : Array Value) : (shV g d) (.agg cs) = .agg (cs.map (shV g d)) := by rw [shV]
@[simp] theorem sh_tuple (cs : Array Value) : (shV g d) (.tuple cs) = .tuple (cs.map (shV g d)) := by rw [shV]
@[simp] theorem sh_undef : (shV g d) undef = undef := by simp [undef]
theorem sh_lit {v : Value} (h : litV v = true) : (shV g d) v = v := by
  unfold litV at h
  split at h <;> first | (simp; done) | cases h
theorem sh_lits {l : List Value} (h : l.all litV = true) : shL g d l = l := by
  induction l with
  | nil => rfl
  | cons x l ih => simp only [List.all_cons, Bool.and_eq_true] at h; simp only [shL, List.map_cons, sh_lit h.1]; rw [show List.map (shV g d) l = l from ih h.2]
theorem sh_const {v : Value} (h : constV v = true) : (shV g d) v = v := by
  unfold constV at h
  split at h
  · rename_i cs
    rw [sh_agg]; congr 1; exact Array.toList_inj.1 (by rw [Array.toList_map]; exact sh_lits h)
  · rename_i cs
    rw [sh_tuple]; congr 1; exact Array.toList_inj.1 (by rw [Array.toList_map]; exact sh_lits h)
  · exact sh_lit h
theorem sh_cells (v : Value) : ((shV g d) v).cells = v.cells.map (shV g d) := by
  cases v <;> simp [Value.cells]
theorem sh_cellsL (v : Value) : ((shV g d) v).cells.toList = shL g d v.cells.toList := by rw [sh_cells, Array.toList_map]
theorem sh_one (v : Value) : Value.oneCell' ((shV g d) v) = Value.oneCell' v := by
  cases v <;> simp [Value.oneCell']
theorem sh_ones (l : List Value) : (shL g d l).all Value.oneCell' = l.all Value.oneCell' := by
  simp only [shL, List.all_map]; congr 1; funext v; exact sh_one v
theorem sh_pAt (v : Value) : pAt ((shV g d) v) = (pAt v).map fun a => (shB g d a.1, a.2) := by
  cases v with
  | pointer a =>
    cases a with
    | none => simp [pAt]
    | some a =>
      obtain ⟨b, o, sp⟩ := a
      cases sp <;> simp [pAt, shA]
  | _ => simp [pAt]
theorem sh_pPick (c a b : Value) : pPick ((shV g d) c) ((shV g d) a) ((shV g d) b) = (pPick c a b).map (shV g d) := by
  cases c with
  | bool t => cases t <;> simp [pPick]
  | _ => simp [pPick]
theorem sh_pNil (v : Value) : pNil ((shV g d) v) = (pNil v).map (shV g d) := by
  cases v with
  | pointer a => cases a <;> simp [pNil]
  | func fn f c => cases fn <;> simp [pNil]
  | _ => simp [pNil]
theorem sh_pFld (off : Nat) (v : Value) : pFld off ((shV g d) v) = (pFld off v).map (shV g d) := by
  unfold pFld
  rw [sh_pAt]
  cases pAt v <;> simp [shA]
theorem sh_pPart (n : Option Nat) (off : Nat) (v : Value) : pPart n off ((shV g d) v) = (pPart n off v).map (shV g d) := by
  cases v with
  | agg cs => cases n <;> simp [pPart]
  | _ => simp [pPart]
theorem sh_pIdx (e : Nat) (v i : Value) : pIdx e ((shV g d) v) ((shV g d) i) = (pIdx e v i).map (shV g d) := by
  cases v with
  | slice a n k =>
    cases a with
    | none => simp [pIdx]
    | some a =>
      obtain ⟨b, o, sp⟩ := a
      cases sp with
      | none =>
        cases i with
        | int k i => simp only [sh_slice, sh_int, Option.map_some, shA, pIdx]; split <;> simp [shA]
        | _ => simp [pIdx, shA]
      | some sp => simp [pIdx, shA]
  | _ => simp [pIdx]
theorem sh_pIdxA (len e : Nat) (v i : Value) : pIdxA len e ((shV g d) v) ((shV g d) i) = (pIdxA len e v i).map (shV g d) := by
  cases v with
  | pointer a =>
    cases a with
    | none => simp [pIdxA]
    | some a =>
      obtain ⟨b, o, sp⟩ := a
      cases sp with
      | none =>
        cases i with
        | int k i => simp only [sh_pointer, sh_int, Option.map_some, shA, pIdxA]; split <;> simp [shA]
        | _ => simp [pIdxA, shA]
      | some sp => simp [pIdxA, shA]
  | _ => simp [pIdxA]
theorem sh_pIndexV (len : Nat) (n : Option Nat) (e : Nat) (v i : Value) : pIndexV len n e ((shV g d) v) ((shV g d) i) = (pIndexV len n e v i).map (shV g d) := by
  cases v with
  | agg cs =>
    cases i with
    | int k i =>
      simp only [sh_agg, sh_int, pIndexV]
      split
      · cases n <;> simp
      · rfl
    | _ => simp [pIndexV]
  | _ => simp [pIndexV]
theorem sh_pIndexS (v i : Value) : pIndexS ((shV g d) v) ((shV g d) i) = (pIndexS v i).map (shV g d) := by
  cases v with
  | string b =>
    cases i with
    | int k i =>
      simp only [sh_string, sh_int, pIndexS]
      split
      · rw [Option.map_map]; congr 1; funext x; simp
      · rfl
    | _ => simp [pIndexS]
  | _ => simp [pIndexS]
theorem sh_pLen (v : Value) : pLen ((shV g d) v) = (pLen v).map (shV g d) := by cases v <;> simp [pLen]
theorem sh_pMax (l : List Value) : pMax (shL g d l) = (pMax l).map (shV g d) := by
  match l with
  | [] => rfl
  | [x] => simp [shL, pMax]
  | [x, y] => cases x <;> cases y <;> simp [shL, pMax]
  | x :: y :: z :: l => simp [shL, pMax]
theorem sh_pMin (l : List Value) : pMin (shL g d l) = (pMin l).map (shV g d) := by
  match l with
  | [] => rfl
  | [x] => simp [shL, pMin]
  | [x, y] => cases x <;> cases y <;> simp [shL, pMin]
  | x :: y :: z :: l => simp [shL, pMin]
theorem sh_eqCells : ∀ xs ys : List Value, eqCells (shL g d xs) (shL g d ys) = eqCells xs ys := by
  intro xs
  induction xs with
  | nil => intro ys; cases ys <;> simp [shL, eqCells]
  | cons x xs ih =>
    intro ys
    cases ys with
    | nil => cases x <;> simp [shL, eqCells]
    | cons y ys =>
      have := ih ys
      simp only [shL] at this
      cases x <;> cases y <;> simp [shL, eqCells, this]
theorem sh_pEq (cl : TCls) (x y : Value) : pEq cl ((shV g d) x) ((shV g d) y) = pEq cl x y := by
  cases cl with
  | flat n =>
    cases x with
    | agg a =>
      cases y with
      | agg b =>
        simp only [sh_agg, pEq, Array.size_map, Array.toList_map]
        rw [show eqCells (List.map (shV g d) a.toList) (List.map (shV g d) b.toList) = eqCells a.toList b.toList from sh_eqCells _ _]
      | _ => simp [pEq]
    | _ => cases y <;> simp [pEq]
  | bool => cases x <;> cases y <;> simp [pEq]
  | ptr => cases x <;> cases y <;> simp [pEq] <;> (rename_i a b; cases a <;> cases b <;> simp [pEq])
  | slice => cases x <;> cases y <;> simp [pEq] <;> (rename_i a _ _ b _ _; cases a <;> cases b <;> simp [pEq])
  | map => cases x <;> cases y <;> simp [pEq] <;> (rename_i a b; cases a <;> cases b <;> simp [pEq])
  | func => cases x <;> cases y <;> simp [pEq]
  | other => cases x <;> cases y <;> simp [pEq]
theorem pInt_sh {op : BinOp} {k : IntKind} {a b : Int} : (pInt op k a b).map (shV g d) = pInt op k a b := by
  cases op <;> simp [pInt] <;> (split <;> simp)
theorem pShift_sh {op : BinOp} {k : IntKind} {a b : Int} : (pShift op k a b).map (shV g d) = pShift op k a b := by
  unfold pShift
  split
  · rfl
  · cases op <;> simp
theorem pStr_sh {op : BinOp} {a b : ByteArray} : (pStr op a b).map (shV g d) = pStr op a b := by
  cases op <;> simp [pStr]
theorem sh_pEqOp (cl : TCls) (op : BinOp) (x y : Value) : pEqOp cl op ((shV g d) x) ((shV g d) y) = (pEqOp cl op x y).map (shV g d) := by
  cases op <;> simp only [pEqOp, sh_pEq, Option.map_map, Option.map_none] <;> (congr 1; funext b; simp)
theorem sh_pBin (cl : TCls) (op : BinOp) (x y : Value) : pBin cl op ((shV g d) x) ((shV g d) y) = (pBin cl op x y).map (shV g d) := by
  have key := sh_pEqOp (g := g) (d := d) cl op x y
  cases x with
  | int k a =>
    cases y with
    | int k' b => cases op <;> simp only [sh_int, pBin, pShift_sh] <;> (split <;> simp [pInt_sh])
    | _ => simpa [pBin] using key
  | string a =>
    cases y with
    | string b => simp [pBin, pStr_sh]
    | _ => simpa [pBin] using key
  | _ => simpa [pBin] using key
theorem sh_pUn (op : UnOp) (x : Value) : pUn op ((shV g d) x) = (pUn op x).map (shV g d) := by cases op <;> cases x <;> simp [pUn]
theorem sh_pConv (k : Option IntKind) (x : Value) : pConv k ((shV g d) x) = (pConv k x).map (shV g d) := by cases k <;> cases x <;> simp [pConv]
theorem sh_pExtract (v : Value) (i : Nat) : pExtract ((shV g d) v) i = (pExtract v i).map (shV g d) := by cases v <;> simp [pExtract]
theorem sh_pInt? (v : Value) : pInt? ((shV g d) v) = pInt? v := by cases v <;> simp [pInt?]
end
inductive Tr (α : Type) where
  | lf
  | nd (v : Option α) (l r : Tr α)
section
variable {α : Type}
def Tr.get : Tr α → Nat → Option α
  | .lf, _ => none
  | .nd v l r, i => match i with
    | 0 => v
    | i + 1 => match Nat.beq (i % 2) 0 with
      | true => l.get (i / 2)
      | false => r.get (i / 2)
def Tr.set (x : α) : Nat → Tr α → Nat → Option (Tr α)
  | 0, _, _ => none
  | k + 1, t, i => match i with
    | 0 => match t with
      | .lf => some (.nd (some x) .lf .lf)
      | .nd _ l r => some (.nd (some x) l r)
    | i + 1 => match Nat.beq (i % 2) 0 with
      | true => match t with
        | .lf => (Tr.set x k .lf (i / 2)).map fun l' => .nd none l' .lf
        | .nd v l r => (Tr.set x k l (i / 2)).map fun l' => .nd v l' r
      | false => match t with
        | .lf => (Tr.set x k .lf (i / 2)).map fun r' => .nd none .lf r'
        | .nd v l r => (Tr.set x k r (i / 2)).map fun r' => .nd v l r'
theorem Tr.get_set {x : α} : ∀ (k : Nat) {t t' : Tr α} {i : Nat}, Tr.set x k t i = some t' → ∀ j, t'.get j = if j = i then some x else t.get j := by
  intro k
  induction k with
  | zero => intro t t' i h; cases h
  | succ k ih =>
    intro t t' i h j
    cases i with
    | zero =>
      cases t with
      | lf => simp only [Tr.set] at h; cases h; cases j with
        | zero => rfl
        | succ j => simp only [Tr.get]; split <;> simp [Tr.get]
      | nd v l r => simp only [Tr.set] at h; cases h; cases j with
        | zero => rfl
        | succ j => simp [Tr.get]
    | succ i =>
      simp only [Tr.set] at h
      have beq : ∀ a : Nat, Nat.beq a 0 = (a == 0) := fun a => by cases a <;> simp [Nat.beq]
      have lf : ∀ j, (Tr.lf : Tr α).get j = none := fun j => by cases j <;> rfl
      cases hb : Nat.beq (i % 2) 0 with
      | true =>
        have hi : i % 2 = 0 := by rw [beq] at hb; simpa using hb
        rw [hb] at h
        simp only at h
        have key : ∃ v l r l', Tr.set x k l (i / 2) = some l' ∧ t' = .nd v l' r ∧ ∀ j, t.get j = (Tr.nd v l r).get j := by
          cases t with
          | lf => obtain ⟨l', h1, e⟩ := Option.map_eq_some_iff.1 h; exact ⟨none, .lf, .lf, l', h1, e.symm, fun j => by rw [lf]; cases j with | zero => rfl | succ j => simp only [Tr.get]; split <;> rfl⟩
          | nd v l r => obtain ⟨l', h1, e⟩ := Option.map_eq_some_iff.1 h; exact ⟨v, l, r, l', h1, e.symm, fun j => rfl⟩
        obtain ⟨v, l, r, l', h1, rfl, hg⟩ := key
        rw [hg]
        cases j with
        | zero => rfl
        | succ j =>
          simp only [Tr.get]
          cases hj : Nat.beq (j % 2) 0 with
          | true =>
            have hj' : j % 2 = 0 := by rw [beq] at hj; simpa using hj
            simp only
            rw [ih h1]
            by_cases e : j / 2 = i / 2
            · rw [if_pos e, if_pos (by omega)]
            · rw [if_neg e, if_neg (by omega)]
          | false =>
            have hj' : j % 2 ≠ 0 := by rw [beq] at hj; simpa using hj
            simp only
            rw [if_neg (by omega)]
      | false =>
        have hi : i % 2 ≠ 0 := by rw [beq] at hb; simpa using hb
        rw [hb] at h
        simp only at h
        have key : ∃ v l r r', Tr.set x k r (i / 2) = some r' ∧ t' = .nd v l r' ∧ ∀ j, t.get j = (Tr.nd v l r).get j := by
          cases t with
          | lf => obtain ⟨l', h1, e⟩ := Option.map_eq_some_iff.1 h; exact ⟨none, .lf, .lf, l', h1, e.symm, fun j => by rw [lf]; cases j with | zero => rfl | succ j => simp only [Tr.get]; split <;> rfl⟩
          | nd v l r => obtain ⟨l', h1, e⟩ := Option.map_eq_some_iff.1 h; exact ⟨v, l, r, l', h1, e.symm, fun j => rfl⟩
        obtain ⟨v, l, r, l', h1, rfl, hg⟩ := key
        rw [hg]
        cases j with
        | zero => rfl
        | succ j =>
          simp only [Tr.get]
          cases hj : Nat.beq (j % 2) 0 with
          | false =>
            have hj' : j % 2 ≠ 0 := by rw [beq] at hj; simpa using hj
            simp only
            rw [ih h1]
            by_cases e : j / 2 = i / 2
            · rw [if_pos e, if_pos (by omega)]
            · rw [if_neg e, if_neg (by omega)]
          | true =>
            have hj' : j % 2 = 0 := by rw [beq] at hj; simpa using hj
            simp only
            rw [if_neg (by omega)]
end
structure EH where
  n : Nat
  t : Tr AObj
def EH.get (E : EH) (b : Nat) : Option AObj := E.t.get b
def EH.set (E : EH) (b : Nat) (o : AObj) : Option EH := (Tr.set o 24 E.t b).map fun t => ⟨E.n, t⟩
def EH.push (E : EH) (o : AObj) : Option EH := (Tr.set o 24 E.t E.n).map fun t => ⟨E.n + 1, t⟩
section
variable (g d : Nat)
def shE (e : MapEntry) : MapEntry := { e with key := shV g d e.key, val := shV g d e.val }
def shO : AObj → AObj
  | .cells ro cs => .cells ro (shL g d cs)
  | .map es c => .map (es.map (shE g d)) c
  | .dead => .dead
structure HR (F : List AObj) (E : EH) (H : AH) : Prop where
  len : F.length = d
  le : g ≤ E.n
  size : H.size = E.n + d
  get : ∀ b, H.get (shB g d b) = (E.get b).map (shO g d)
  out : ∀ b, E.n ≤ b → E.get b = none
  fr : ∀ b, g ≤ b → b < g + d → H.get b = F[b - g]?
end
section
variable {g d : Nat} {F : List AObj} {E E' : EH} {H : AH}
theorem HR.lt (h : HR g d F E H) {b : Nat} {o : AObj} (hb : E.get b = some o) : b < E.n := by
  rcases Nat.lt_or_ge b E.n with h1 | h1
  · exact h1
  · rw [h.out b h1] at hb; cases hb
theorem HR.new (h : HR g d F E H) : H.size = shB g d E.n := by
  unfold shB; rw [if_neg (by have := h.le; omega)]; exact h.size
theorem HR.shlt (h : HR g d F E H) {b : Nat} (hb : b < E.n) : shB g d b < H.size := by
  rw [h.size]; unfold shB; split <;> omega
theorem HR.set (h : HR g d F E H) {b : Nat} {o : AObj} (hb : b < E.n) (hs : E.set b o = some E') : HR g d F E' (H.set (shB g d b) (shO g d o)) := by
  obtain ⟨t, ht, rfl⟩ := Option.map_eq_some_iff.1 hs
  have hg := Tr.get_set 24 ht
  refine ⟨h.len, h.le, by rw [AH.size_set]; exact h.size, fun j => ?_, fun j hj => ?_, fun j h1 h2 => ?_⟩
  · show _ = (t.get j).map _
    rw [hg j, AH.get_set]
    by_cases e : j = b
    · subst e; rw [if_pos rfl, if_pos rfl, if_pos (h.shlt hb)]; rfl
    · rw [if_neg (fun x => e (shB_inj x)), if_neg e]; exact h.get j
  · show t.get j = none
    rw [hg j, if_neg (by have : E.n ≤ j := hj; omega)]; exact h.out j hj
  · rw [AH.get_set_ne (by unfold shB; split <;> omega)]; exact h.fr j h1 h2
theorem HR.push (h : HR g d F E H) {o : AObj} (hs : E.push o = some E') : HR g d F E' (H.push (shO g d o)) := by
  obtain ⟨t, ht, rfl⟩ := Option.map_eq_some_iff.1 hs
  have hg := Tr.get_set 24 ht
  have hle := h.le
  have hsz := h.size
  refine ⟨h.len, by show g ≤ E.n + 1; omega, by rw [AH.size_push, hsz]; show _ = E.n + 1 + d; omega, fun j => ?_, fun j hj => ?_, fun j h1 h2 => ?_⟩
  · show _ = (t.get j).map _
    rw [hg j, AH.get_push, h.new]
    by_cases e : j = E.n
    · subst e; rw [if_pos rfl, if_pos rfl]; rfl
    · rw [if_neg (fun x => e (shB_inj x)), if_neg e]; exact h.get j
  · show t.get j = none
    have : E.n + 1 ≤ j := hj
    rw [hg j, if_neg (by omega)]; exact h.out j (by omega)
  · rw [AH.get_push_old (by omega)]; exact h.fr j h1 h2
end
end Go.Proofs.YtodpbobjmkhcfaaGreatDoor.Gst
