/- Several texts in one. -/
import Derived.Test.YtghoamdlcjdfjaaGreatDoorAce
namespace Go.Proofs.YtghoamdlcjdfjaaGreatDoor.Gst
open Go Go.RowKit
set_option linter.unusedSimpArgs false
set_option linter.unusedVariables false
set_option maxHeartbeats 4000000
set_option synthInstance.maxSize 2000
set_option synthInstance.maxHeartbeats 400000
set_option maxRecDepth 100000
set_option linter.unusedSectionVars false
theorem KC (s : Value) (bs : Nat) (h0 : 1 ≤ bs) {R : SP} (T : Nat) (hT : T < 1000000) (hbs : bs < 1000000) {Q : Value → AH → Prop} :
 ∀ (N : Nat) (L D : List TP) (H : AH), L.length ≤ N → D.length + L.length = T → Qc bs L → ac (ts 7 Pt.cells s (pl D ++ pl L) * R) H →
 (∀ (Z : List TP) (H : AH), Z.Perm L → Qc (2 * bs) Z → ac (ts 7 Pt.cells s (pl D ++ pl Z) * R) H → wp (IL s (vi (T : Int)) l6 (vi (bs : Int)) H) Q) →
 wp (Ag s (vi (T : Int)) l6 (vi (bs : Int)) (vi (D.length : Int)) (vi (((D.length + 2 * bs : Nat)) : Int)) H) Q := by
 intro N
 induction N using Nat.strongRecOn with
 | ind N ih =>
  intro L D H hN hDL hC hh hk;refine ah (PB ..) ?_
  by_cases hle : 2 * bs ≤ L.length
  ·refine aa (SO (by omega)) ?_
   refine gs ?_;obtain ⟨X, L2, rfl, hXl, hXs, hXB, hC2⟩ := hC.split (by omega);rw [dh] at hle hN hDL;obtain ⟨Y, L3, rfl, hYl, hYs, hYB, hC3⟩ := hC2.split (by omega);rw [dh] at hle hN hDL;have hB := yP.append_right.1 hXB;refine ah (PC ..) ?_;refine aa (aB (by omega) (by omega)) ?_;have m := FR s _ (pl D) (pl L3) X Y (bj _) (by omega) (by omega) hXs hYs hB.1 (by rw [cN]; omega);rw [cN, hXl, hYl] at m;rw [show ((D.length : Nat) : Int) + ((bs : Nat) : Int) = ((D.length + bs : Nat) : Int) from by omega, show D.length + 2 * bs = D.length + bs + bs from by omega]
   have e1 : pl D ++ pl (X ++ (Y ++ L3)) = pl D ++ (pl X ++ (pl Y ++ pl L3)) := by rw [ij, ij]
   rw [e1] at hh;refine ag hh m fun Z H1 h1 => ?_;rw [ar, ac.pu] at h1;obtain ⟨⟨hZs, hZp⟩, h1⟩ := h1;have hZl := hZp.length_eq;rw [dh] at hZl;refine aa (jf (by omega) (by omega)) ?_;refine aa (aB (by omega) (by omega)) ?_
   have := ih L3.length (by omega) L3 (D ++ Z) H1 (bj _) (by rw [dh]; omega) hC3 (by
    rw [ij, List.append_assoc]; exact h1.to) (fun Z2 H2 hp2 hc2 h2 => by
    refine hk (Z ++ Z2) H2 ?_ (.cons (by omega) hZs ?_ hc2) ?_
    ·rw [← List.append_assoc]
     exact hZp.append hp2
    ·have hb3 : yP (X ++ Y) L3 := fun x hx y hy => (List.mem_append.1 hx).elim (fun q => hB.2 x q y hy) (fun q => hYB x q y hy)
     exact hb3.perm hZp hp2
    ·rw [ij, ← List.append_assoc, ← ij D Z]
     exact h2)
   rw [dh, hZl, hXl, hYl] at this;rw [show ((D.length + bs + bs : Nat) : Int) + 2 * ((bs : Nat) : Int) = ((D.length + (bs + bs) + 2 * bs : Nat) : Int) from by omega, show D.length + bs + bs = D.length + (bs + bs) from by omega];exact this
  ·refine aa (SN (by omega)) ?_
   refine gs ?_;refine ah (II ..) ?_;refine ah (X3 ..) ?_;refine aa (aB (by omega) (by omega)) ?_
   by_cases hlt : bs < L.length
   ·refine aa (bO (by omega)) ?_
    refine gs ?_;obtain ⟨X, Y, rfl, hXl, hXs, hXB, hC2⟩ := hC.split (by omega);rw [dh] at hle hN hDL hlt;have m := FR s _ (pl D) [] X Y (bj _) (by omega) (by omega) hXs (hC2.short (by omega)) hXB (by rw [cN]; omega);rw [cN, hXl, List.append_nil, show D.length + bs + Y.length = T from by omega] at m;rw [show ((D.length : Nat) : Int) + ((bs : Nat) : Int) = ((D.length + bs : Nat) : Int) from by omega]
    have e1 : pl D ++ pl (X ++ Y) = pl D ++ (pl X ++ pl Y) := by rw [ij]
    rw [e1] at hh;refine ag hh m fun Z H1 h1 => ?_;rw [ar, ac.pu] at h1;obtain ⟨⟨hZs, hZp⟩, h1⟩ := h1;have hZl := hZp.length_eq;rw [dh] at hZl;rw [List.append_nil] at h1;exact hk Z H1 hZp (.last (by omega) hZs) h1.to
   ·refine aa (bu (by omega)) ?_
    refine gs ?_;exact hk L H (List.Perm.refl _) (.last (by omega) (hC.short (by omega))) hh
theorem WV (s : Value) {R : SP} (L0 : List TP) (hT : L0.length < 400000) : ∀ (N : Nat) (bs : Nat) (L : List TP) (H : AH), 1 ≤ bs → bs < 1000000 → L0.length - bs ≤ N → L.Perm L0 → Qc bs L → ac (ts 7 Pt.cells s (pl L) * R) H →
 wp (IK s (vi (L0.length : Int)) l6 (vi (bs : Int)) H) fun v' H' => ∃ Z : List TP, v' = .tuple #[] ∧ ac (pu (jH Z ∧ Z.Perm L0) * ts 7 Pt.cells s (pl Z) * R) H' := by
 intro N
 induction N using Nat.strongRecOn with
 | ind N ih =>
  intro bs L H h0 hbs hN hp hC hh;have hl := hp.length_eq;refine ah (XY ..) ?_
  by_cases hlt : bs < L0.length
  ·refine aa (bO (by omega)) ?_
   refine gs ?_;refine ah (XZ ..) ?_;refine aa (jf (by omega) (by omega)) ?_;refine ah (X0 ..) ?_
   have := KC s bs h0 (R := R) L0.length (by omega) hbs (Q := fun v' H' => ∃ Z : List TP, v' = .tuple #[] ∧ ac (pu (jH Z ∧ Z.Perm L0) * ts 7 Pt.cells s (pl Z) * R) H') L.length L [] H (bj _) (by simpa using hl) hC (by simpa using hh) (fun Z H1 hp1 hc1 h1 => by
    refine ah (X4 ..) ?_;refine aa (jf (by omega) (by omega)) ?_;rw [show ((bs : Nat) : Int) * 2 = ((2 * bs : Nat) : Int) from by omega]
    exact ih (L0.length - 2 * bs) (by omega) (2 * bs) Z H1 (by omega) (by omega) (bj _) (hp1.trans hp) hc1 (by simpa using h1))
   rw [List.length_nil, Nat.zero_add] at this;rw [show 2 * ((bs : Nat) : Int) = ((2 * bs : Nat) : Int) from by omega];exact this
  ·refine aa (bu (by omega)) ?_
   refine gs ?_;refine ah (Ln ..) ?_;refine aq ⟨L, rfl, ?_⟩;rw [ar, ac.pu];exact ⟨⟨hC.short (by omega), hp⟩, hh⟩
theorem alO (s : Value) (T : Nat) (hT : T < 400000) {R : SP} {Q : Value → AH → Prop} : ∀ (N : Nat) (L D : List TP) (H : AH), L.length ≤ N → D.length + L.length = T → Asc L → ac (ts 7 Pt.cells s (pl D ++ pl L) * R) H →
 (∀ (Z : List TP) (H : AH), Z.Perm L → Qc 20 Z → ac (ts 7 Pt.cells s (pl D ++ pl Z) * R) H → wp (PD s (vi (T : Int)) l6 (vi 20) H) Q) →
 wp (Ah s (vi (T : Int)) l6 (vi 20) (vi (D.length : Int)) (vi ((D.length + 20 : Nat) : Int)) H) Q := by
 intro N
 induction N using Nat.strongRecOn with
 | ind N ih =>
  intro L D H hN hDL hA hh hk;refine ah (PE ..) ?_
  by_cases hle : 20 ≤ L.length
  ·refine aa (SO (by omega)) ?_
   refine gs ?_;refine ah (PF ..) ?_;have eL : L.take 20 ++ L.drop 20 = L := List.take_append_drop ..
   have l1 : (L.take 20).length = 20 := by rw [List.length_take]; omega
   have l2 : (L.drop 20).length = L.length - 20 := List.length_drop;obtain ⟨a1, a2, a3⟩ := Mh.1 (by rw [eL]; exact hA : Asc (L.take 20 ++ L.drop 20));have m := EZ (pl D) (pl (L.drop 20)) s (L.take 20) a1 (by rw [cN]; omega);rw [cN, l1] at m
   have e1 : pl D ++ pl L = pl D ++ (pl (L.take 20) ++ pl (L.drop 20)) := by rw [← ij (L.take 20), eL]
   rw [e1] at hh;refine ag hh m fun Z H1 h1 => ?_;rw [ar, ac.pu] at h1;obtain ⟨⟨hZs, hZp⟩, h1⟩ := h1;have hZl := hZp.length_eq;refine aa (aB (by omega) (by omega)) ?_
   have := ih (L.drop 20).length (by omega) (L.drop 20) (D ++ Z) H1 (bj _) (by rw [dh]; omega) a2 (by
    rw [ij, List.append_assoc]; exact h1.to) (fun Z2 H2 hp2 hc2 h2 => by
    refine hk (Z ++ Z2) H2 ?_ (.cons (by omega) hZs (a3.perm hZp hp2) hc2) ?_
    ·have := hZp.append hp2
     rw [eL] at this;exact this
    ·rw [ij, ← List.append_assoc, ← ij D Z]
     exact h2)
   rw [dh, hZl, l1] at this;rw [show ((D.length + 20 : Nat) : Int) + 20 = ((D.length + 20 + 20 : Nat) : Int) from by omega];exact this
  ·refine aa (SN (by omega)) ?_
   refine gs ?_;refine ah (IJ ..) ?_;refine ah (XW ..) ?_;have m := EZ (pl D) [] s L hA (by rw [cN]; omega);rw [cN, hDL, List.append_nil] at m;refine ag hh m fun Z H1 h1 => ?_;rw [ar, ac.pu, List.append_nil] at h1;obtain ⟨⟨hZs, hZp⟩, h1⟩ := h1;have hZl := hZp.length_eq;exact hk Z H1 hZp (.last (by omega) hZs) h1.to
theorem afS (s : Value) (l : List Pt) (hl : l.length < 400000) : Sp adJ [s, l6] (ts 7 Pt.cells s l) (fun _ : Unit => .tuple #[]) (fun _ => ts 7 Pt.cells s (aY l)) := by
 have stable : Sp adK [s, vi l.length, l6] (ts 7 Pt.cells s l) (fun _ : List TP => .tuple #[]) (fun Z => pu (jH Z ∧ Z.Perm (mY 0 l)) * ts 7 Pt.cells s (pl Z)) := by
  refine aX (am0 _ _ _) fun R H h => ?_;refine ah (XV ..) ?_
  have ln : (mY 0 l).length = l.length := by rw [← cN, rU]
  have := alO s l.length hl (R := R) (Q := fun v' H' => ∃ Z : List TP, v' = .tuple #[] ∧ ac (pu (jH Z ∧ Z.Perm (mY 0 l)) * ts 7 Pt.cells s (pl Z) * R) H') l.length (mY 0 l) [] H (by omega) (by simpa using ln) (KF l 0) (by
   rw [rU]; simpa using h) (fun Z H1 hp hc h1 => by
   refine ah (XX ..) ?_;have := WV s (R := R) (mY 0 l) (by omega) _ 20 Z H1 (by omega) (by omega) (bj _) hp hc (by simpa using h1);rw [ln] at this
   exact this)
  exact this
 refine aX (amZ _ _) fun R H h => ?_;refine oX (s := s) (l := l) h ?_;refine ag h stable fun Z H1 h1 => ?_;rw [ar, ac.pu] at h1;obtain ⟨⟨hZs, hZp⟩, h1⟩ := h1;rw [UM hZs hZp] at h1;exact aq ⟨(), rfl, h1.to⟩
theorem OL (p : Nat) (rp : List Nat) (σ : az) (hl : σ.pts.length < 400000) : Sp adC [vp p] (bS p rp σ) (fun v : Value => v) (fun v => ts 7 Pt.cells v (aY σ.pts) * bS p rp σ) := by
 have hbl := AQ σ.pts;refine aZ fun R H h => ?_;obtain ⟨g, hrp, hg, h0⟩ := eE h;unfold aJ at h0;refine bf (fun r => amH _ H) ?_;refine av h0 ae rfl ?_;refine ag h0 (xY g.pv σ.pts (by omega)) fun v H1 h1 => ?_;refine ag h1 (afS v σ.pts hl) fun _ H2 h2 => ?_;refine ah (W6 _ _ _ H2) ?_;refine oX (s := v) (l := aY σ.pts) h2 ?_;refine ah (W8 _ _ _ _ _ H2) ?_
 have h3 : ac (bS p rp σ * (ts 7 Pt.cells v (aY σ.pts) * R)) H2 := by
  refine bG g hrp hg ?_;unfold aJ;exact h2.to
 have h4 := dr 7 Pt.cells h3
 have h5 : ac (ts 7 Pt.cells (.slice none 0 0) ((aY σ.pts).take 0) * (ts 7 Pt.cells v (aY σ.pts) * bS p rp σ) * R) H2 := by rw [List.take_zero]; exact h4.to
 refine ud ?_ (KT (.slice none 0 0) v (aY σ.pts) (by omega) (aY σ.pts).length 0 (.slice none 0 0) H2 (by omega) h5)
 rintro v' H' ⟨o, rfl, h6⟩
 exact ⟨_, rfl, h6.to⟩
theorem Xd {x : Nat} {g : XIds} {σ : az} {R : SP} {H : AH} (h : ac (ay x g σ * R) H) : ∃ (kv vv ev : Value) (Z : SP), ac (blk g.m (.cells false [kv, vv, ev]) * (ts 5 Ev.cells ev σ.μ.E * (blk x (.cells false [vi σ.c.sh, vi σ.c.sl, vi σ.c.wk, vi σ.c.wd, vu σ.c.un, vp g.m, vp g.ib, vp g.tb, vp g.po, vp g.co, g.ov, g.rv, g.wv, g.pv]) * (Z * R)))) H ∧
 ∀ {R' : SP} {H' : AH}, ac (blk g.m (.cells false [kv, vv, ev]) * (ts 5 Ev.cells ev σ.μ.E * (blk x (.cells false [vi σ.c.sh, vi σ.c.sl, vi σ.c.wk, vi σ.c.wd, vu σ.c.un, vp g.m, vp g.ib, vp g.tb, vp g.po, vp g.co, g.ov, g.rv, g.wv, g.pv]) * (Z * R')))) H' → ac (ay x g σ * R') H' := by
 unfold ay at h
 have h1 : ac (bz g.m σ.μ * (blk x (.cells false [vi σ.c.sh, vi σ.c.sl, vi σ.c.wk, vi σ.c.wd, vu σ.c.un, vp g.m, vp g.ib, vp g.tb, vp g.po, vp g.co, g.ov, g.rv, g.wv, g.pv]) * ((gZ g.ib g.m σ.c.sh σ.nx σ.μ.N * (tab g.tb g.m σ.c.sh.toNat σ.c.sl.toNat *
  (ts 3 sJ g.ov (σ.obs.map fun x => x.1) * (ts 1 o8 g.rv g.rp * (iY g.m 0 (g.rp.zip (σ.obs.map fun x => x.2)) * (ts 1 dO g.wv (ed g.ws) * ts 7 Pt.cells g.pv (aY σ.pts))))))) * R))) H := h.to
 obtain ⟨al, h2⟩ := ac.ex.1 h1;rw [ar, ac.pu] at h2;obtain ⟨hp, h2⟩ := h2;obtain ⟨⟨kv, vv, ev⟩, h3⟩ := ac.ex.1 h2;dsimp only at h3
 refine ⟨kv, vv, ev, (ts 3 Gc kv al * ts 1 JC vv al) * (gZ g.ib g.m σ.c.sh σ.nx σ.μ.N * (tab g.tb g.m σ.c.sh.toNat σ.c.sl.toNat *
  (ts 3 sJ g.ov (σ.obs.map fun x => x.1) * (ts 1 o8 g.rv g.rp * (iY g.m 0 (g.rp.zip (σ.obs.map fun x => x.2)) * (ts 1 dO g.wv (ed g.ws) * ts 7 Pt.cells g.pv (aY σ.pts))))))), h3.to, fun {R' H'} h4 => ?_⟩
 unfold ay
 have h5 : ac (bz g.m σ.μ * (blk x (.cells false [vi σ.c.sh, vi σ.c.sl, vi σ.c.wk, vi σ.c.wd, vu σ.c.un, vp g.m, vp g.ib, vp g.tb, vp g.po, vp g.co, g.ov, g.rv, g.wv, g.pv]) * ((gZ g.ib g.m σ.c.sh σ.nx σ.μ.N * (tab g.tb g.m σ.c.sh.toNat σ.c.sl.toNat *
  (ts 3 sJ g.ov (σ.obs.map fun x => x.1) * (ts 1 o8 g.rv g.rp * (iY g.m 0 (g.rp.zip (σ.obs.map fun x => x.2)) * (ts 1 dO g.wv (ed g.ws) * ts 7 Pt.cells g.pv (aY σ.pts))))))) * R'))) H' := by
  refine ac.ex.2 ⟨al, ?_⟩;rw [ar, ac.pu];refine ⟨hp, ac.ex.2 ⟨(kv, vv, ev), ?_⟩⟩;dsimp only;exact h4.to
 exact h5.to
theorem agG {w how n : Nat} (h : aR w how = some n) : n < 18446744073709551616 := by
 have := ej w;unfold aR at h
 split at h
 ·split at h
  ·have := fi h; omega
  ·cases h
 ·split at h
  ·have := fi h; omega
  ·cases h
 ·split at h
  ·have := fi h; omega
  ·cases h
 ·cases h
structure SI (σ : az) (k : Nat) : Prop where
 c : ci σ.c = true
 N : σ.μ.N ≤ k
 E : σ.μ.E.length ≤ k
 pts : σ.pts.length ≤ k
 V : ∀ l, σ.μ.V l < 18446744073709551616
 obs : σ.obs.length ≤ k
 cells : ∀ o, o < σ.obs.length → 1 ≤ (am σ o).length ∧ (am σ o).length < 1000
 slot : ∀ s i, σ.μ.V (10, s, i) ≠ 0 → σ.μ.V (10, s, i) % 4294967296 < σ.obs.length
 head : ∀ o, σ.μ.V (12, o, 0) ≤ k
theorem SI.ok {σ : az} {k : Nat} (h : SI σ k) (hk : k < 300000) : SOk σ :=
 ⟨h.c, by have := h.N; omega, by have := h.pts; omega, h.V, by have := h.obs; omega, h.cells, h.slot⟩
theorem SI.mono {σ : az} {k k' : Nat} (h : SI σ k) (hk : k ≤ k') : SI σ k' :=
 ⟨h.c, dZ h.N hk, dZ h.E hk, dZ h.pts hk, h.V, dZ h.obs (by omega), h.cells, h.slot, fun o => dZ (h.head o) hk⟩
theorem SI.acc {σ : az} {k : Nat} (h : SI σ k) (who kd : Int) (l : b7) : SI (σ.mem (σ.μ.acc who kd l)) (k + 2) :=
 ⟨h.c, by have := h.N; show σ.μ.N + 2 ≤ _; omega, by have := h.E; show (σ.μ.E ++ [_]).length ≤ _; simp; omega, dZ h.pts (by omega), h.V, dZ h.obs (by omega), h.cells, h.slot, fun o => dZ (h.head o) (by omega)⟩
theorem SI.put {σ : az} {k : Nat} (h : SI σ k) (l : b7) (v : Nat) (hv : v < 18446744073709551616) (h1 : l.1 ≠ 10) (h2 : l.1 ≠ 12 ∨ v ≤ k) : SI (σ.mem (σ.μ.put l v)) k := by
 refine ⟨h.c, h.N, h.E, h.pts, fun x => ?_, h.obs, h.cells, fun s i => ?_, fun o => ?_⟩
 ·show (if x = l then v else σ.μ.V x) < _
  split
  ·exact hv
  ·exact h.V x
 ·show (if (10, s, i) = l then v else σ.μ.V (10, s, i)) ≠ 0 → (if (10, s, i) = l then v else σ.μ.V (10, s, i)) % _ < _
  rw [if_neg (fun e => h1 (by rw [← e]))];exact h.slot s i
 ·show (if (12, o, 0) = l then v else σ.μ.V (12, o, 0)) ≤ _
  split
  ·rename_i e
   rcases h2 with h2 | h2
   ·exact absurd (by rw [← e]) h2
   ·exact h2
  ·exact h.head o
theorem SI.swp {σ : az} {k : Nat} (h : SI σ k) (who : Int) (l : b7) (was now : Nat) (hv : now < 18446744073709551616) (h1 : l.1 ≠ 10) (h2 : l.1 ≠ 12) : SI (σ.mem (σ.μ.swp who l was now)) (k + 2) := by
 have e : σ.μ.swp who l was now = (if σ.μ.V l = was then (σ.μ.acc who 3 l).put l now else σ.μ.acc who 4 l) := by
  show (⟨_, _, _⟩ : Mu) = _;unfold Mu.swap
  split <;> rfl
 rw [e]
 split
 ·exact (h.acc who 3 l).put l now hv h1 (.inl h2)
 ·exact h.acc who 4 l
theorem SI.turn {σ : az} {k : Nat} (h : SI σ k) (who : Int) (o w how : Nat) : SI (σ.mem (σ.μ.turn who o w (aR w how))) (k + 2) := by
 cases e : aR w how with
 | none => exact h.mono (by omega)
 | some n => exact h.swp who (11, (o : Int), 0) w n (agG e) (by simp) (by simp)
theorem SI.cnt {σ : az} {k : Nat} (h : SI σ k) (who : Int) (l : b7) (n : Nat) (h1 : l.1 ≠ 10) (h2 : l.1 ≠ 12) : SI (σ.mem (σ.μ.cnt who l n)) (k + 2) :=
 (h.acc who 3 l).put l _ (Nat.mod_lt _ (by omega)) h1 (.inl h2)
theorem SI.note {σ : az} {k : Nat} (h : SI σ k) (step who e : Int) : SI (σ.note step who e) (k + 1) :=
 ⟨h.c, dZ h.N (by omega), dZ h.E (by omega), by have := h.pts; show (σ.pts ++ [_]).length ≤ _; simp; omega, h.V, dZ h.obs (by omega), h.cells, h.slot, fun o => dZ (h.head o) (by omega)⟩
theorem SI.link {σ : az} {k : Nat} (h : SI σ k) (who : Int) (l : b7) (nx : Int → Option Nat) : SI { σ with μ := σ.μ.acc who 6 l, nx := nx } (k + 2) := by
 have := h.acc who 6 l;exact ⟨this.c, this.N, this.E, this.pts, this.V, this.obs, this.cells, this.slot, this.head⟩
theorem SI.begin {σ : az} {k : Nat} (h : SI σ k) (who place : Int) : SI (σ.begin who place) (k + 1) :=
 ⟨h.c, by have := h.N; show σ.μ.N + 1 ≤ _; omega, dZ h.E (by omega), dZ h.pts (by omega), h.V, dZ h.obs (by omega), h.cells, h.slot, fun o => dZ (h.head o) (by omega)⟩
theorem SI.lay {σ : az} {k : Nat} (h : SI σ k) (t : Tk) : SI (g7 σ t) (k + 2) := by
 have ha := h.acc t.who 6 (16, (t.obj : Int), ((ax t.w % (am σ t.obj).length : Nat) : Int));rw [z6]
 have hl : (σ.obs.modify t.obj fun q => (q.1, (am σ t.obj).set (ax t.w % (am σ t.obj).length) (⟨t.x.flow, t.x.a, t.x.b⟩ : Pk))).length = σ.obs.length := by simp
 refine ⟨ha.c, ha.N, ha.E, ha.pts, ha.V, by rw [hl]; exact dZ h.obs (by omega), fun o ho => ?_, fun s i hs => by show _ < List.length _; rw [hl]; exact h.slot s i hs, ha.head⟩
 have ho' : o < σ.obs.length := by
  have : o < (σ.obs.modify t.obj fun q => (q.1, (am σ t.obj).set (ax t.w % (am σ t.obj).length) (⟨t.x.flow, t.x.a, t.x.b⟩ : Pk))).length := ho
  rwa [hl] at this
 have hc := h.cells o ho';rw [ur ho'] at hc
 have hx : ∀ z : Ob × List Pk, z.2.length = (σ.obs[o]).2.length → 1 ≤ z.2.length ∧ z.2.length < 1000 := fun z hz => by rw [hz]; exact hc
 unfold am;rw [List.getElem?_modify, br ho'];refine hx (if t.obj = o then ((σ.obs[o]).1, (am σ t.obj).set (ax t.w % (am σ t.obj).length) ⟨t.x.flow, t.x.a, t.x.b⟩) else σ.obs[o]) ?_
 split
 ·rename_i e
  subst e;rw [ur ho', xa]
 ·rfl
theorem fe.mono {σ σ' : az} {t : Tk} (T : fe σ t) (hc : σ'.c = σ.c) (ho : σ'.obs.length = σ.obs.length) : fe σ' t :=
 ⟨fun h => by rw [ho]; exact T.obj h, by rw [hc]; exact T.s, by rw [hc]; exact T.i, T.w, T.c5, T.c0, T.ats⟩
abbrev Tk.new (c : gf) (who : Int) (x : Cl) : Tk := ⟨who, x, (x.flow.tmod c.sh + c.sh).tmod c.sh, 0, 0, 0, false, 0, 0, 0, 0, 0⟩
theorem fe.new {σ : az} (hc : ci σ.c = true) (who : Int) (x : Cl) : fe σ (Tk.new σ.c who x) := by
 have := bV.1 hc;exact ⟨fun h => by simp at h, rfl, fun _ _ => by simp; omega, by simp, fun h => by simp at h, fun h => by simp at h, .inl rfl⟩
theorem SM (σ : az) (t : Tk) : ((g7 σ t).obs.map fun q => q.1) = σ.obs.map fun q => q.1 := by
 unfold g7;apply List.ext_getElem?;intro j;simp only [tA, List.getElem?_modify]
 cases σ.obs[j]? with
 | none => rfl
 | some q =>
  show some (if t.obj = j then _ else q).1 = some q.1
  split <;> rfl
structure Kept (σ : az) (t : Tk) (r : az × Tk × Bool) (k : Nat) : Prop where
 si : SI r.1 (k + 3)
 c : r.1.c = σ.c
 obs : r.1.obs.length = σ.obs.length
 hd : (r.1.obs.map fun q => q.1) = σ.obs.map fun q => q.1
 pts : r.1.pts.length ≤ σ.pts.length + 1
 who : r.2.1.who = t.who
 x : r.2.1.x = t.x
 ok : r.2.2 = false → fe r.1 r.2.1
theorem FJ {σ : az} {t : Tk} {k : Nat} (h : SI σ k) (T : fe σ t) (hat : t.at' = 0 ∨ t.at' = 2) : Kept σ t (fF σ t) k := by
 refine ⟨(h.acc _ _ _).mono (by omega), rfl, rfl, rfl, Nat.le_succ _, rfl, rfl, fun _ => ?_⟩;have hi := T.i (by omega) (by omega);refine ⟨fun hh => ?_, T.s, fun h1 h2 => ?_, T.w, fun hh => ?_, fun hh => ?_, ?_⟩
 ·show (aD σ t).obj < σ.obs.length
  have hf : (aD σ t).found = true := by
   cases hf : (aD σ t).found with
   | true => rfl
   | false =>
    have hh' : 6 ≤ (if (aD σ t).found = true then 6 else if cR σ (aD σ t) = true then 3 else 2 : Nat) ∨ (if (aD σ t).found = true then 6 else if cR σ (aD σ t) = true then 3 else 2 : Nat) = 5 ∧ _ := hh;rw [hf, if_neg (by simp)] at hh'
    rcases hh' with q | q
    ·split at q <;> omega
    ·have q := q.1
     split at q <;> omega
  have hf' : tn (σ.μ.V (10, t.s, (t.i : Int))) t.x.flow = true := hf;have e : (aD σ t).obj = σ.μ.V (10, t.s, (t.i : Int)) % 4294967296 := if_pos hf';rw [e];have hv := (of_decide_eq_true hf').1;exact h.slot _ _ hv
 ·have h1 : (if (aD σ t).found = true then 6 else if cR σ (aD σ t) = true then 3 else 2 : Nat) < 5 := h1
  have h2 : (if (aD σ t).found = true then 6 else if cR σ (aD σ t) = true then 3 else 2 : Nat) ≠ 3 := h2
  have hl : ¬ cR σ (aD σ t) = true := by
   intro hl;rw [if_pos hl] at h1 h2
   split at h1
   ·omega
   ·rename_i hn
    rw [if_neg hn] at h2;exact h2 rfl
  have : ¬ (σ.c.sl ≤ ((t.i + 1 : Nat) : Int)) := fun q => hl (iy q);show ((t.i + 1 : Nat) : Int) < σ.c.sl;omega
 ·have hh : (if (aD σ t).found = true then 6 else if cR σ (aD σ t) = true then 3 else 2 : Nat) = 5 := hh
  split at hh
  ·omega
  ·split at hh <;> omega
 ·have hh : (if (aD σ t).found = true then 6 else if cR σ (aD σ t) = true then 3 else 2 : Nat) = 10 ∨ (if (aD σ t).found = true then 6 else if cR σ (aD σ t) = true then 3 else 2 : Nat) = 11 ∨ (if (aD σ t).found = true then 6 else if cR σ (aD σ t) = true then 3 else 2 : Nat) = 14 ∨ 21 ≤ (if (aD σ t).found = true then 6 else if cR σ (aD σ t) = true then 3 else 2 : Nat) := hh
  split at hh
  ·omega
  ·split at hh <;> omega
 ·show (if (aD σ t).found = true then 6 else if cR σ (aD σ t) = true then 3 else 2 : Nat) = 0 ∨ _
  simp only [fF]
  split
  ·simp
  ·split <;> simp
theorem Yj {σ : az} {t : Tk} {k : Nat} (now : Int) (hk : k < 300000) (h : SI σ k) (T : fe σ t) : Kept σ t (ai σ t now) k := by
 rcases T.ats with hat | hat | hat | hat | hat | hat | hat | hat | hat | hat | hat | hat | hat | hat | hat | hat | hat | hat | hat | hat | hat | hat | hat | hat
 ·-- 0
  cases hx : dI t.x with
  | some e =>
   have hs : ai σ t now = (σ.note now t.who e, { t with code := e }, true) := by simp only [ai, hat, hx]
   rw [hs];exact ⟨(h.note _ _ _).mono (by omega), rfl, rfl, rfl, (by simp [az.note]), rfl, rfl, fun h => by simp at h⟩
  | none =>
   have hs : ai σ t now = fF σ t := by simp only [ai, hat, hx, fF]
   rw [hs];exact FJ h T (.inl hat)
 ·-- 2
  have hs : ai σ t now = fF σ t := by simp only [ai, hat, fF]
  rw [hs];exact FJ h T (.inr hat)
 ·-- 3
  by_cases hw : σ.μ.V (8, t.s, 0) = 0
  ·have hs : ai σ t now = (σ.mem (σ.μ.swp t.who (8, t.s, 0) 0 1), { t with at' := 4, i := 0 }, false) := by simp only [ai, hat]; rw [if_pos hw]
   rw [hs];exact ⟨(h.swp _ _ _ _ (by omega) (by simp) (by simp)).mono (by omega), rfl, rfl, rfl, Nat.le_succ _, rfl, rfl, fun _ => ⟨fun _ => (by rename_i hh; simp at hh), T.s, (fun _ _ => by have := bV.1 h.c; show ((0 : Nat) : Int) < σ.c.sl; omega), T.w, (fun h => by simp at h), (fun h => by simp at h), (by simp)⟩⟩
  ·have hs : ai σ t now = (σ.mem (σ.μ.swp t.who (8, t.s, 0) 0 1), t, false) := by simp only [ai, hat]; rw [if_neg hw]
   rw [hs];exact ⟨(h.swp _ _ _ _ (by omega) (by simp) (by simp)).mono (by omega), rfl, rfl, rfl, Nat.le_succ _, rfl, rfl, fun _ => T.mono rfl rfl⟩
 ·-- 4
  have hi := T.i (by omega) (by omega)
  cases hf : (aD σ t).found with
  | true =>
   have hs : ai σ t now = (b6 σ t, { aD σ t with at' := 5 }, false) := by simp only [ai, hat, hf]; rfl
   rw [hs];have hf' : tn (σ.μ.V (10, t.s, (t.i : Int))) t.x.flow = true := hf;have e : (aD σ t).obj = σ.μ.V (10, t.s, (t.i : Int)) % 4294967296 := if_pos hf'
   have ho : (aD σ t).obj < σ.obs.length := by rw [e]; exact h.slot _ _ (of_decide_eq_true hf').1
   exact ⟨(h.acc _ _ _).mono (by omega), rfl, rfl, rfl, Nat.le_succ _, rfl, rfl, fun _ => ⟨fun _ => ho, T.s, (fun h1 h2 => by simp at h1), T.w, (fun _ h2 => by rw [show (aD σ t).found = false from h2] at hf; cases hf), (fun h => by simp at h), (by simp)⟩⟩
  | false =>
   cases hla : cR σ (aD σ t) with
   | true =>
    have hs : ai σ t now = ((b6 σ t).note now t.who 5, { aD σ t with at' := 5, code := 5 }, false) := by simp only [ai, hat, hf, hla]; rfl
    rw [hs];exact ⟨((h.acc _ _ _).note _ _ _).mono (by omega), rfl, rfl, rfl, (by simp [az.note]), rfl, rfl, fun _ => ⟨fun _ => (by rename_i hh; rw [show (aD σ t).found = false from hf] at hh; simp at hh), T.s, (fun h1 h2 => by simp at h1), T.w, (fun _ _ => rfl), (fun h => by simp at h), (by simp)⟩⟩
   | false =>
    have hs : ai σ t now = (b6 σ t, aD σ t, false) := by simp only [ai, hat, hf, hla]; rfl
    rw [hs]
    have hl : ¬ (σ.c.sl ≤ ((t.i + 1 : Nat) : Int)) := fun q => by rw [show cR σ (aD σ t) = true from iy q] at hla; cases hla
    have ea : (aD σ t).at' = 4 := hat;exact ⟨(h.acc _ _ _).mono (by omega), rfl, rfl, rfl, Nat.le_succ _, rfl, rfl, fun _ => ⟨fun _ => (by rename_i hh; rw [ea] at hh; simp at hh), T.s, (fun _ _ => by show ((t.i + 1 : Nat) : Int) < σ.c.sl; omega), T.w, (fun h => by rw [ea] at h; simp at h), (fun h => by rw [ea] at h; simp at h), (by rw [ea]; simp)⟩⟩
 ·-- 5
  cases hf : t.found with
  | false =>
   have hs : ai σ t now = (σ.mem ((σ.μ.acc t.who 2 (8, t.s, 0)).put (8, t.s, 0) 0), { t with at' := 6 }, true) := by simp only [ai, hat, hf]; rfl
   rw [hs];exact ⟨((h.acc _ _ _).put _ _ (by omega) (by simp) (.inl (by simp))).mono (by omega), rfl, rfl, rfl, Nat.le_succ _, rfl, rfl, fun h => by simp at h⟩
  | true =>
   have hs : ai σ t now = (σ.mem ((σ.μ.acc t.who 2 (8, t.s, 0)).put (8, t.s, 0) 0), { t with at' := 6 }, false) := by simp only [ai, hat, hf]; rfl
   rw [hs];exact ⟨((h.acc _ _ _).put _ _ (by omega) (by simp) (.inl (by simp))).mono (by omega), rfl, rfl, rfl, Nat.le_succ _, rfl, rfl, fun _ => ⟨fun _ => T.obj (.inr ⟨hat, hf⟩), T.s, (fun h1 h2 => by simp at h1), T.w, (fun h => by simp at h), (fun h => by simp at h), (by simp)⟩⟩
 ·-- 6
  have hs : ai σ t now = (σ.mem (σ.μ.acc t.who 5 (13, (t.obj : Int), 0)), { t with at' := 7 }, false) := by simp only [ai, hat]
  rw [hs];exact ⟨(h.acc _ _ _).mono (by omega), rfl, rfl, rfl, Nat.le_succ _, rfl, rfl, fun _ => ⟨fun _ => T.obj (.inl (by omega)), T.s, (fun h1 h2 => by simp at h1), T.w, (fun h => by simp at h), (fun h => by simp at h), (by simp)⟩⟩
 ·-- 7
  by_cases hw : aS (σ.μ.V (11, (t.obj : Int), 0)) = 2
  ·have hs : ai σ t now = (kD σ t, { t with w := σ.μ.V (11, (t.obj : Int), 0), at' := 3 }, false) := by simp only [ai, hat]; rw [if_pos hw]
   rw [hs];exact ⟨(h.acc _ _ _).mono (by omega), rfl, rfl, rfl, Nat.le_succ _, rfl, rfl, fun _ => ⟨fun _ => (by rename_i hh; simp at hh), T.s, (fun _ h2 => by simp at h2), h.V _, (fun h => by simp at h), (fun h => by simp at h), (by simp)⟩⟩
  ·have hs : ai σ t now = (kD σ t, { t with w := σ.μ.V (11, (t.obj : Int), 0), at' := 8 }, false) := by simp only [ai, hat]; rw [if_neg hw]
   rw [hs];exact ⟨(h.acc _ _ _).mono (by omega), rfl, rfl, rfl, Nat.le_succ _, rfl, rfl, fun _ => ⟨fun _ => T.obj (.inl (by omega)), T.s, (fun h1 h2 => by simp at h1), h.V _, (fun h => by simp at h), (fun h => by simp at h), (by simp)⟩⟩
 ·-- 8
  cases hf : ku σ t with
  | true =>
   have hs : ai σ t now = (iF σ t, { t with at' := 15 }, false) := by simp only [ai, hat, hf]; rfl
   rw [hs];exact ⟨(h.acc _ _ _).mono (by omega), rfl, rfl, rfl, Nat.le_succ _, rfl, rfl, fun _ => ⟨fun _ => T.obj (.inl (by omega)), T.s, (fun h1 h2 => by simp at h1), T.w, (fun h => by simp at h), (fun h => by simp at h), (by simp)⟩⟩
  | false =>
   by_cases hw : aS t.w = 1
   ·have hs : ai σ t now = (iF σ t, { t with at' := 9 }, false) := by simp only [ai, hat, hf]; rw [if_pos hw]; rfl
    rw [hs];exact ⟨(h.acc _ _ _).mono (by omega), rfl, rfl, rfl, Nat.le_succ _, rfl, rfl, fun _ => ⟨fun _ => T.obj (.inl (by omega)), T.s, (fun h1 h2 => by simp at h1), T.w, (fun h => by simp at h), (fun h => by simp at h), (by simp)⟩⟩
   ·have hs : ai σ t now = (iF σ t, { t with at' := 12 }, false) := by simp only [ai, hat, hf]; rw [if_neg hw]; rfl
    rw [hs];exact ⟨(h.acc _ _ _).mono (by omega), rfl, rfl, rfl, Nat.le_succ _, rfl, rfl, fun _ => ⟨fun _ => T.obj (.inl (by omega)), T.s, (fun h1 h2 => by simp at h1), T.w, (fun h => by simp at h), (fun h => by simp at h), (by simp)⟩⟩
 ·-- 9
  cases hw : cY σ.μ t.obj t.w (aR t.w 0) with
  | true =>
   have hs : ai σ t now = ((σ.mem (σ.μ.turn t.who t.obj t.w (aR t.w 0))).note now t.who 0, { t with at' := 10, code := 0 }, false) := by simp only [ai, hat, hw]; rfl
   rw [hs];exact ⟨((h.turn _ _ _ _).note _ _ _).mono (by omega), rfl, rfl, rfl, (by simp [az.note]), rfl, rfl, fun _ => ⟨fun _ => T.obj (.inl (by omega)), T.s, (fun h1 h2 => by simp at h1), T.w, (fun h => by simp at h), (fun _ => rfl), (by simp)⟩⟩
  | false =>
   have hs : ai σ t now = (σ.mem (σ.μ.turn t.who t.obj t.w (aR t.w 0)), { t with at' := 7 }, false) := by simp only [ai, hat, hw]; rfl
   rw [hs];exact ⟨(h.turn _ _ _ _).mono (by omega), rfl, rfl, rfl, Nat.le_succ _, rfl, rfl, fun _ => ⟨fun _ => T.obj (.inl (by omega)), T.s, (fun h1 h2 => by simp at h1), T.w, (fun h => by simp at h), (fun h => by simp at h), (by simp)⟩⟩
 ·-- 10
  have hs : ai σ t now = (g7 σ t, { t with at' := 11 }, false) := by simp only [ai, hat]
  rw [hs];exact ⟨(h.lay t).mono (by omega), rfl, iH σ t, SM σ t, Nat.le_succ _, rfl, rfl, fun _ => (by have := iH σ t; exact ⟨fun _ => (by rw [this]; exact T.obj (.inl (by omega))), T.s, (fun h1 h2 => by simp at h1), T.w, (fun h => by simp at h), (fun _ => T.c0 (by omega)), (by simp)⟩)⟩
 ·-- 11
  have hs : ai σ t now = (kC σ t, t, true) := by simp only [ai, hat]
  rw [hs];exact ⟨((h.acc _ _ _).put _ _ (by have := ej t.w; omega) (by simp) (.inl (by simp))).mono (by omega), rfl, rfl, rfl, Nat.le_succ _, rfl, rfl, fun h => by simp at h⟩
 ·-- 12
  have hs : ai σ t now = (σ.mem (σ.μ.cnt t.who (3, 0, 0) 4294967296), { t with at' := 13 }, false) := by simp only [ai, hat]
  rw [hs];exact ⟨(h.cnt _ _ _ (by simp) (by simp)).mono (by omega), rfl, rfl, rfl, Nat.le_succ _, rfl, rfl, fun _ => ⟨fun _ => T.obj (.inl (by omega)), T.s, (fun h1 h2 => by simp at h1), T.w, (fun h => by simp at h), (fun h => by simp at h), (by simp)⟩⟩
 ·-- 13
  cases hw : cY σ.μ t.obj t.w (aR t.w 0) with
  | true =>
   have hs : ai σ t now = ((σ.mem (σ.μ.turn t.who t.obj t.w (aR t.w 0))).note now t.who 0, { t with at' := 14, code := 0 }, false) := by simp only [ai, hat, hw]; rfl
   rw [hs];exact ⟨((h.turn _ _ _ _).note _ _ _).mono (by omega), rfl, rfl, rfl, (by simp [az.note]), rfl, rfl, fun _ => ⟨fun _ => T.obj (.inl (by omega)), T.s, (fun h1 h2 => by simp at h1), T.w, (fun h => by simp at h), (fun _ => rfl), (by simp)⟩⟩
  | false =>
   have hs : ai σ t now = (σ.mem (σ.μ.turn t.who t.obj t.w (aR t.w 0)), { t with at' := 20 }, false) := by simp only [ai, hat, hw]; rfl
   rw [hs];exact ⟨(h.turn _ _ _ _).mono (by omega), rfl, rfl, rfl, Nat.le_succ _, rfl, rfl, fun _ => ⟨fun _ => T.obj (.inl (by omega)), T.s, (fun h1 h2 => by simp at h1), T.w, (fun h => by simp at h), (fun h => by simp at h), (by simp)⟩⟩
 ·-- 14
  have hs : ai σ t now = (g7 σ t, { t with at' := 21 }, false) := by simp only [ai, hat]
  rw [hs];exact ⟨(h.lay t).mono (by omega), rfl, iH σ t, SM σ t, Nat.le_succ _, rfl, rfl, fun _ => (by have := iH σ t; exact ⟨fun _ => (by rw [this]; exact T.obj (.inl (by omega))), T.s, (fun h1 h2 => by simp at h1), T.w, (fun h => by simp at h), (fun _ => T.c0 (by omega)), (by simp)⟩)⟩
 ·-- 15
  by_cases hw : σ.μ.V (2, 0, 0) % 2 = 1
  ·have hs : ai σ t now = (mZ σ t, { t with q := σ.μ.V (2, 0, 0), at' := 7 }, false) := by simp only [ai, hat]; rw [if_pos hw]
   rw [hs];exact ⟨(h.acc _ _ _).mono (by omega), rfl, rfl, rfl, Nat.le_succ _, rfl, rfl, fun _ => ⟨fun _ => T.obj (.inl (by omega)), T.s, (fun h1 h2 => by simp at h1), T.w, (fun h => by simp at h), (fun h => by simp at h), (by simp)⟩⟩
  ·have hs : ai σ t now = (mZ σ t, { t with q := σ.μ.V (2, 0, 0), at' := 16 }, false) := by simp only [ai, hat]; rw [if_neg hw]
   rw [hs];exact ⟨(h.acc _ _ _).mono (by omega), rfl, rfl, rfl, Nat.le_succ _, rfl, rfl, fun _ => ⟨fun _ => T.obj (.inl (by omega)), T.s, (fun h1 h2 => by simp at h1), T.w, (fun h => by simp at h), (fun h => by simp at h), (by simp)⟩⟩
 ·-- 16
  by_cases hw : aS (σ.μ.V (11, (t.obj : Int), 0)) = 2
  ·have hs : ai σ t now = (kD σ t, { t with w := σ.μ.V (11, (t.obj : Int), 0), at' := 3 }, false) := by simp only [ai, hat]; rw [if_pos hw]
   rw [hs];exact ⟨(h.acc _ _ _).mono (by omega), rfl, rfl, rfl, Nat.le_succ _, rfl, rfl, fun _ => ⟨fun _ => (by rename_i hh; simp at hh), T.s, (fun _ h2 => by simp at h2), h.V _, (fun h => by simp at h), (fun h => by simp at h), (by simp)⟩⟩
  ·have hs : ai σ t now = (kD σ t, { t with w := σ.μ.V (11, (t.obj : Int), 0), at' := 17 }, false) := by simp only [ai, hat]; rw [if_neg hw]
   rw [hs];exact ⟨(h.acc _ _ _).mono (by omega), rfl, rfl, rfl, Nat.le_succ _, rfl, rfl, fun _ => ⟨fun _ => T.obj (.inl (by omega)), T.s, (fun h1 h2 => by simp at h1), h.V _, (fun h => by simp at h), (fun h => by simp at h), (by simp)⟩⟩
 ·-- 17
  cases hf : ku σ t with
  | true =>
   have hs : ai σ t now = (iF σ t, { t with at' := 18, mark := now }, false) := by simp only [ai, hat, hf]; rfl
   rw [hs];exact ⟨(h.acc _ _ _).mono (by omega), rfl, rfl, rfl, Nat.le_succ _, rfl, rfl, fun _ => ⟨fun _ => T.obj (.inl (by omega)), T.s, (fun h1 h2 => by simp at h1), T.w, (fun h => by simp at h), (fun h => by simp at h), (by simp)⟩⟩
  | false =>
   have hs : ai σ t now = (iF σ t, { t with at' := 7 }, false) := by simp only [ai, hat, hf]; rfl
   rw [hs];exact ⟨(h.acc _ _ _).mono (by omega), rfl, rfl, rfl, Nat.le_succ _, rfl, rfl, fun _ => ⟨fun _ => T.obj (.inl (by omega)), T.s, (fun h1 h2 => by simp at h1), T.w, (fun h => by simp at h), (fun h => by simp at h), (by simp)⟩⟩
 ·-- 18
  by_cases hw : σ.μ.V (2, 0, 0) = t.q
  ·have hs : ai σ t now = ((mZ σ t).note t.mark t.who 9, { t with code := 9 }, true) := by simp only [ai, hat]; rw [if_pos hw]
   rw [hs];exact ⟨((h.acc _ _ _).note _ _ _).mono (by omega), rfl, rfl, rfl, (by simp [az.note]), rfl, rfl, fun h => by simp at h⟩
  ·have hs : ai σ t now = (mZ σ t, { t with at' := 7 }, false) := by simp only [ai, hat]; rw [if_neg hw]
   rw [hs];exact ⟨(h.acc _ _ _).mono (by omega), rfl, rfl, rfl, Nat.le_succ _, rfl, rfl, fun _ => ⟨fun _ => T.obj (.inl (by omega)), T.s, (fun h1 h2 => by simp at h1), T.w, (fun h => by simp at h), (fun h => by simp at h), (by simp)⟩⟩
 ·-- 20
  have hs : ai σ t now = (σ.mem (σ.μ.cnt t.who (3, 0, 0) 1), { t with at' := 7 }, false) := by simp only [ai, hat]
  rw [hs];exact ⟨(h.cnt _ _ _ (by simp) (by simp)).mono (by omega), rfl, rfl, rfl, Nat.le_succ _, rfl, rfl, fun _ => ⟨fun _ => T.obj (.inl (by omega)), T.s, (fun h1 h2 => by simp at h1), T.w, (fun h => by simp at h), (fun h => by simp at h), (by simp)⟩⟩
 ·-- 21
  have hs : ai σ t now = (kC σ t, { t with at' := 22 }, false) := by simp only [ai, hat]
  rw [hs];exact ⟨((h.acc _ _ _).put _ _ (by have := ej t.w; omega) (by simp) (.inl (by simp))).mono (by omega), rfl, rfl, rfl, Nat.le_succ _, rfl, rfl, fun _ => ⟨fun _ => T.obj (.inl (by omega)), T.s, (fun h1 h2 => by simp at h1), T.w, (fun h => by simp at h), (fun _ => T.c0 (by omega)), (by simp)⟩⟩
 ·-- 22
  have hs : ai σ t now = (σ.mem (σ.μ.acc t.who 1 (9, t.s, 0)), { t with top := σ.μ.V (9, t.s, 0), at' := 23 }, false) := by simp only [ai, hat]
  rw [hs];exact ⟨(h.acc _ _ _).mono (by omega), rfl, rfl, rfl, Nat.le_succ _, rfl, rfl, fun _ => ⟨fun _ => T.obj (.inl (by omega)), T.s, (fun h1 h2 => by simp at h1), T.w, (fun h => by simp at h), (fun _ => T.c0 (by omega)), (by simp)⟩⟩
 ·-- 23
  have hs : ai σ t now = ({ σ with μ := σ.μ.acc t.who 6 (14, (t.obj : Int), 0), nx := fun k => if k = (t.obj : Int) then some t.top else σ.nx k }, { t with at' := 24 }, false) := by simp only [ai, hat]
  rw [hs];exact ⟨(h.link _ _ _).mono (by omega), rfl, rfl, rfl, Nat.le_succ _, rfl, rfl, fun _ => ⟨fun _ => T.obj (.inl (by omega)), T.s, (fun h1 h2 => by simp at h1), T.w, (fun h => by simp at h), (fun _ => T.c0 (by omega)), (by simp)⟩⟩
 ·-- 24
  by_cases hw : σ.μ.V (9, t.s, 0) = t.top
  ·have hs : ai σ t now = (σ.mem (σ.μ.swp t.who (9, t.s, 0) t.top (t.obj + 1)), { t with at' := 25 }, false) := by simp only [ai, hat]; rw [if_pos hw]
   rw [hs];exact ⟨(h.swp _ _ _ _ (by have := T.obj (.inl (by omega)); have := h.obs; omega) (by simp) (by simp)).mono (by omega), rfl, rfl, rfl, Nat.le_succ _, rfl, rfl, fun _ => ⟨fun _ => T.obj (.inl (by omega)), T.s, (fun h1 h2 => by simp at h1), T.w, (fun h => by simp at h), (fun _ => T.c0 (by omega)), (by simp)⟩⟩
  ·have hs : ai σ t now = (σ.mem (σ.μ.swp t.who (9, t.s, 0) t.top (t.obj + 1)), { t with at' := 22 }, false) := by simp only [ai, hat]; rw [if_neg hw]
   rw [hs];exact ⟨(h.swp _ _ _ _ (by have := T.obj (.inl (by omega)); have := h.obs; omega) (by simp) (by simp)).mono (by omega), rfl, rfl, rfl, Nat.le_succ _, rfl, rfl, fun _ => ⟨fun _ => T.obj (.inl (by omega)), T.s, (fun h1 h2 => by simp at h1), T.w, (fun h => by simp at h), (fun _ => T.c0 (by omega)), (by simp)⟩⟩
 ·-- 25
  have hs : ai σ t now = (σ.mem (σ.μ.cnt t.who (3, 0, 0) 1), t, true) := by simp only [ai, hat]
  rw [hs];exact ⟨(h.cnt _ _ _ (by simp) (by simp)).mono (by omega), rfl, rfl, rfl, Nat.le_succ _, rfl, rfl, fun h => by simp at h⟩
theorem MP {α : Type} (F : α → SP) (R : SP) : (ex fun x => F x * R) = ex F * R := by
 apply SP.ext;intro h
 constructor
 ·rintro ⟨x, a, b, hd, rfl, ha, hb⟩
  exact ⟨a, b, hd, rfl, ⟨x, ha⟩, hb⟩
 ·rintro ⟨a, b, hd, rfl, ⟨x, ha⟩, hb⟩
  exact ⟨x, a, b, hd, rfl, ha, hb⟩
def eT (e p : Nat) (rp : List Nat) (t : Tk) : SP := ex fun v : Value => pu (Ix rp t v) * eB e p (WG e (zh t.at')) v t
def xT (x P : Nat) (t : Tk) : SP := ex fun k : Xk => pu (gv t k) * xB x P t k
theorem Zs (e p : Nat) (rp : List Nat) (σ : az) (t : Tk) : eP e p rp σ t = eT e p rp t * bS p rp σ := by
 unfold eP eT;rw [← MP]
 congr 1
 funext v
 rw [ar]
theorem aoY (x P : Nat) (σ : az) (t : Tk) : xP x P σ t = xT x P t * bQ P σ := by
 unfold xP xT;rw [← MP]
 congr 1
 funext v
 rw [ar]
def xU (x P : Nat) (r : az × Tk × Bool) : SP := ex fun k : Xk => pu (if r.2.2 = true then k.code = r.2.1.code else gv r.2.1 k) * xB x P r.2.1 k
theorem aoZ (x P : Nat) (r : az × Tk × Bool) : xQ x P r = xU x P r * bQ P r.1 := by
 unfold xQ xU;rw [← MP]
 congr 1
 funext v
 rw [ar]
def eU (e p : Nat) (rp : List Nat) (r : az × Tk × Bool) : SP := if r.2.2 = true then emp else eT e p rp r.2.1
theorem anW (e p : Nat) (rp : List Nat) (r : az × Tk × Bool) : eQ e p rp r = eU e p rp r * bS p rp r.1 := by
 unfold eQ eU
 split
 ·rw [jI]
 ·rw [Zs]
theorem ao0 {x P : Nat} {r : az × Tk × Bool} (h : r.2.2 = false) : xU x P r = xT x P r.2.1 := by
 unfold xU xT;simp only [h]
 rfl
theorem anX {e p : Nat} {rp : List Nat} {r : az × Tk × Bool} (h : r.2.2 = false) : eU e p rp r = eT e p rp r.2.1 := by
 unfold eU;rw [if_neg (by rw [h]; simp)]
section
variable (p x : Nat) (rp : List Nat) (σ : az)
theorem Zu (hc : ci σ.c = true) (who : Int) (c : Cl) : Sp xn [vp p, vi who, .agg (Cl.cells c).toArray] (bS p rp σ) (fun e : Nat => vp e) (fun e => eT e p rp (Tk.new σ.c who c) * bS p rp σ) := by
 have hr := bV.1 hc;refine aX (MM _ _ _) fun R H h => ?_;refine a8 h fun b H1 h1 => ?_;refine a7 h1 ?_;obtain ⟨g, hrp, hg, k1⟩ := eE (p := p) (rp := rp) (σ := σ) (R := blk b (.cells false (Cl.cells c)) * R) (H := H1) h1.to;refine av k1 ae rfl ?_;refine av k1 aE rfl ?_;refine ag k1 (YM (p := p) (g := g) (σ := σ) (LD g.tb g.m σ.c.sh.toNat σ.c.sl.toNat (by omega) c.flow)) fun _ H2 k2 => ?_;refine en k2 k1 rfl ?_
 have es : vi ((c.flow.tmod (σ.c.sh.toNat : Int) + (σ.c.sh.toNat : Int)).tmod (σ.c.sh.toNat : Int)) = vi (Tk.new σ.c who c).s := by rw [show ((σ.c.sh.toNat : Nat) : Int) = σ.c.sh from by omega]
 rw [es];have h2 := bG (p := p) (rp := rp) (σ := σ) (R := blk b (.cells false (Cl.cells c)) * R) (H := H2) g hrp hg k2.to;refine kP ?_;refine a8 h2 fun e H3 h3 => ?_;refine bw h3 ae rfl rfl fun H4 h4 => ?_;refine aq ⟨e, rfl, ?_⟩;rw [← Zs];exact JA (v := .pointer none) (n := lK) (gT (by simp)) rfl h4.to
theorem K6 (who : Int) (c : Cl) (s : Int) : Sp mX [vp x, vi who, .agg (Cl.cells c).toArray] emp (fun b : Nat => vp b) (fun b => xT b x (Tk.new σ.c who c)) := by
 refine aX (CS _ _ _) fun R H h => ?_;refine a8 h fun b H1 h1 => ?_;refine a7 h1 ?_;refine kP ?_;refine a8 h1 fun xb H2 h2 => ?_;refine aq ⟨xb, rfl, ?_⟩;refine ac.ex.2 ⟨⟨0, 0, -1, false, 0, 0, 0, 0, 0, 0, 0⟩, ?_⟩;rw [ar, ac.pu];exact ⟨by simp [gv], h2.to⟩
theorem OA (who place : Int) (hN : σ.μ.N < 1000000) : Sp ju [.agg [vp p, vp x].toArray, vi who, vi place] (bS p rp σ * bQ x σ) (fun _ : Unit => .tuple #[]) (fun _ => bS p rp (σ.begin who place) * bQ x (σ.begin who place)) := by
 refine aX (vd _ _ _) fun R H h => ?_;refine a8 (l := [vp p, vp x]) h fun b H1 h1 => ?_;refine av h1 aE rfl ?_;refine ag h1 (alN p rp σ who place) fun _ H2 h2 => ?_;refine av h2 aE rfl ?_;refine ag h2 (anB x σ who place (by omega)) fun _ H3 h3 => ?_;exact aq ⟨(), rfl, h3.to⟩
theorem af7 (xb : Nat) (r : az × Tk × Bool) : Sp tH [vp xb, vb r.2.2] (xU xb x r) (fun _ : Unit => .agg (n3 (if r.2.2 = true then r.2.1.code else 0)).toArray) (fun _ => xU xb x r) := by
 refine aZ fun R H h => ?_;obtain ⟨k, h1⟩ := ac.ex.1 h;rw [ar, ac.pu] at h1;obtain ⟨hk, h1⟩ := h1;refine bf (fun r => Kt _ _ H) ?_;refine bm h1 fun b H2 h2 => ?_;have back : ∀ {H' : AH}, ac (xB xb x r.2.1 k * R) H' → ac (xU xb x r * R) H' := fun h => ac.ex.2 ⟨k, by rw [ar]; exact ac.pu.2 ⟨hk, h⟩⟩;cases hd : r.2.2
 ·refine gs ?_
  refine kP ?_;refine fm h2 rfl rfl fun H3 h3 => ?_;refine a7 h3 ?_;exact aq ⟨(), rfl, back h3.to⟩
 ·refine gs ?_
  rw [hd, if_pos rfl] at hk;refine Uh h2 ae ?_;rw [hk];refine fm h2 rfl rfl fun H3 h3 => ?_;refine a7 h3 ?_;exact aq ⟨(), rfl, back h3.to⟩
end
theorem amA (d : Bool) : aj .bool .neq (vb d) (vb d) = some (vb false) := by cases d <;> rfl
theorem am8 {p x pb : Nat} {rp : List Nat} {σ : az} {P R : SP} {H : AH} {Q : Value → AH → Prop} {k : Value × AH → Value → OV} (h : ac P H) [f : Fr P (blk pb (.cells false [vp p, vp x]) * (bS p rp σ * bQ x σ)) R]
 (hk : ∀ H', ac (blk pb (.cells false [vp p, vp x]) * (bS p rp σ * bQ x σ) * R) H' → wp (k (vi σ.μ.E.length, H') (vb false)) Q) :
 wp (fG (vb false) false [.f 0] (vp pb) H fun v29 =>
  fG (vb false) false [.n, .f 0] v29 H fun v30 =>
  (gE (vb false) false H (FF gH [v30] H)).bind fun r31 =>
  yX (vb false) false [.f 1] (vp pb) fun v32 =>
  (gB (vb false) false (au v32 r31.2)).bind fun v33 =>
  bJ (au v32 H) (au v32 r31.2) <|
  yX (vb false) false [.n, .f 5] v33 fun v34 =>
  (gB (vb false) false (au v34 r31.2)).bind fun v35 =>
  bJ (au v34 H) (au v34 r31.2) <|
  yX (vb false) false [.n, .f 2] v35 fun v36 =>
  (gB (vb false) false (au v36 r31.2)).bind fun v37 =>
  bJ (au v36 H) (au v36 r31.2) <|
  (ue (yv (vb false)) false (ep v37 some) (some undef)).bind fun v38 =>
  bJ (ai2 v37) (ai2 v37) <|
  (gB (vb false) false (aj .other .neq r31.1 v38)).bind fun v39 =>
  (aM (vb false) (vb true) v39).bind (k r31)) Q := by
 have h0 := ac.fr (A := blk pb (.cells false [vp p, vp x]) * (bS p rp σ * bQ x σ)) h;obtain ⟨g, hrp, hg, k1⟩ := eE (p := p) (rp := rp) (σ := σ) (R := bQ x σ * (blk pb (.cells false [vp p, vp x]) * R)) (H := H) h0.to;obtain ⟨gx, hgx, l1⟩ := iw (p := x) (σ := σ) (R := aJ p g σ * (blk pb (.cells false [vp p, vp x]) * R)) (H := H) k1.to;obtain ⟨kv, vv, ev, Z, m1, back⟩ := Xd (x := x) (g := gx) (σ := σ) (R := aJ p g σ * (blk pb (.cells false [vp p, vp x]) * R)) (H := H) l1.to;refine gs ?_;refine av m1 aE rfl ?_;refine gs ?_;refine av m1 ae rfl ?_;have bl : Sp gH [vp g.m] (aJ p g σ) (fun _ : Unit => vi σ.μ.E.length) (fun _ => aJ p g σ) := Qb (p := p) (g := g) (σ := σ) (ai7 g.m σ.μ);refine mI ?_;refine ag m1 bl fun _ H2 m2 => ?_
 have gadff : ∀ {o : List Stp} {y : Value} {kk : Value → OV}, wp (ad o y kk) Q → wp (yX (vb false) false o y kk) Q := fun {o y kk} q => by rw [qn]; exact q
 refine gadff ?_;refine bp aE ?_;refine cZ ?_;refine aL m2 rfl ?_;refine aI m1 m2 (by rfl) ?_;refine gadff ?_;refine bp ae ?_;refine cZ ?_;refine aL m2 rfl ?_;refine aI m1 m2 (by rfl) ?_;refine gadff ?_;refine bp ae ?_;refine cZ ?_;refine aL m2 rfl ?_;refine aI m1 m2 (by rfl) ?_;refine DG ?_;refine ge (s := ev) (l := σ.μ.E) m2 ?_;refine Yt ?_;refine cZ ?_;refine aa (yC rfl) ?_;refine aa (kq _ _) ?_;refine hk H2 ?_;have m3 := back (R' := aJ p g σ * (blk pb (.cells false [vp p, vp x]) * R)) (H' := H2) m2.to;have m4 := eK (p := x) (σ := σ) (R := aJ p g σ * (blk pb (.cells false [vp p, vp x]) * R)) gx hgx m3;have m5 := bG (p := p) (rp := rp) (σ := σ) (R := bQ x σ * (blk pb (.cells false [vp p, vp x]) * R)) (H := H2) g hrp hg m4.to;exact m5.to
def DX (f : Value → Value → Bool) : List Value → List Value → Bool
 | [], [] => true
 | x :: xs, y :: ys => f x y && DX f xs ys
 | _, _ => false
def eqV : Nat → Value → Value → Bool
 | _, .bool a, .bool b => a == b
 | _, .int k a, .int k' b => decide (k = k') && decide (a = b)
 | _, .string a, .string b => decide (a = b)
 | _, .pointer a, .pointer b => decide (a = b)
 | _, .slice a n e, .slice a' n' e' => decide (a = a') && decide (n = n') && decide (e = e')
 | _, .map a, .map b => decide (a = b)
 | _, .nilFunc, .nilFunc => true
 | _, .nilIface, .nilIface => true
 | n + 1, .agg xs, .agg ys => DX (eqV n) xs.toList ys.toList
 | n + 1, .tuple xs, .tuple ys => DX (eqV n) xs.toList ys.toList
 | n + 1, .func f xs zs, .func f' ys ws => decide (f = f') && DX (eqV n) xs.toList ys.toList && DX (eqV n) zs.toList ws.toList
 | _, _, _ => false
theorem Bd {f : Value → Value → Bool} (hf : ∀ x y, f x y = true → x = y) : ∀ xs ys, DX f xs ys = true → xs = ys := by
 intro xs
 induction xs with
 | nil => intro ys h; cases ys with | nil => rfl | cons y ys => simp [DX] at h
 | cons x xs ih =>
  intro ys h
  cases ys with
  | nil => simp [DX] at h
  | cons y ys =>
   simp only [DX, Bool.and_eq_true] at h;rw [hf _ _ h.1, ih _ h.2]
theorem Ez : ∀ (n : Nat) (x y : Value), eqV n x y = true → x = y := by
 intro n
 induction n with
 | zero =>
  intro x y h
  cases x <;> cases y <;> simp_all [eqV]
 | succ n ih =>
  have hl := Bd ih;intro x y h
  cases x <;> cases y <;> simp_all [eqV]
  ·exact ⟨Array.toList_inj.1 (hl _ _ h.1.2), Array.toList_inj.1 (hl _ _ h.2)⟩
  ·exact Array.toList_inj.1 (hl _ _ h)
  ·exact Array.toList_inj.1 (hl _ _ h)
def eqO : Option Value → Option Value → Bool
 | none, none => true
 | some x, some y => eqV 4 x y
 | _, _ => false
theorem U2 {x y : Option Value} (h : eqO x y = true) : x = y := by
 cases x <;> cases y <;> simp_all [eqO]
 exact Ez _ _ _ h
section
variable (g d : Nat)
def zD (b : Nat) : Nat := if b < g then b else b + d
def yI (a : Addr) : Addr := { a with block := zD g d a.block }
def bA : Value → Value
 | .pointer a => .pointer (a.map (yI g d))
 | .slice a n e => .slice (a.map (yI g d)) n e
 | .map r => .map (r.map (zD g d))
 | .func fn f c => .func fn (f.map bA) (c.map bA)
 | .iface t v => .iface t (bA v)
 | .agg cs => .agg (cs.map bA)
 | .tuple cs => .tuple (cs.map bA)
 | v => v
end
abbrev gi (g d : Nat) (l : List Value) : List Value := l.map (bA g d)
section
variable {g d : Nat}
theorem T5 {a b : Nat} (h : zD g d a = zD g d b) : a = b := by unfold zD at h; split at h <;> split at h <;> omega
@[simp] theorem T6 (b : Bool) : (bA g d) (.bool b) = .bool b := by rw [bA] <;> simp
@[simp] theorem xW (k : IntKind) (n : Int) : (bA g d) (.int k n) = .int k n := by rw [bA] <;> simp
@[simp] theorem aoM (k : FloatKind) (n : Nat) : (bA g d) (.float k n) = .float k n := by rw [bA] <;> simp
@[simp] theorem am2 (k : FloatKind) (n m : Nat) : (bA g d) (.complex k n m) = .complex k n m := by rw [bA] <;> simp
@[simp] theorem FL (b : ByteArray) : (bA g d) (.string b) = .string b := by rw [bA] <;> simp
@[simp] theorem ao8 (r : Option Nat) : (bA g d) (.chan r) = .chan r := by rw [bA] <;> simp
@[simp] theorem am3 : (bA g d) .nilFunc = .nilFunc := by rw [bA] <;> simp
@[simp] theorem ak7 : (bA g d) .nilIface = .nilIface := by rw [bA] <;> simp
@[simp] theorem PL (a : Option Addr) : (bA g d) (.pointer a) = .pointer (a.map (yI g d)) := by rw [bA]
@[simp] theorem fR (a : Option Addr) (n e : Nat) : (bA g d) (.slice a n e) = .slice (a.map (yI g d)) n e := by rw [bA]
@[simp] theorem IO (r : Option Nat) : (bA g d) (.map r) = .map (r.map (zD g d)) := by rw [bA]
@[simp] theorem aoN (t : TypeId) (v : Value) : (bA g d) (.iface t v) = .iface t ((bA g d) v) := by rw [bA]
@[simp] theorem ao9 (fn : Fn) (f c : Array Value) : (bA g d) (.func fn f c) = .func fn (f.map (bA g d)) (c.map (bA g d)) := by rw [bA]
@[simp] theorem PG (cs : Array Value) : (bA g d) (.agg cs) = .agg (cs.map (bA g d)) := by rw [bA]
@[simp] theorem afR (cs : Array Value) : (bA g d) (.tuple cs) = .tuple (cs.map (bA g d)) := by rw [bA]
@[simp] theorem qZ : (bA g d) undef = undef := by simp [undef]
theorem afL {v : Value} (h : cJ v = true) : (bA g d) v = v := by
 unfold cJ at h
 split at h <;> first | (simp; done) | cases h
theorem wg {l : List Value} (h : l.all cJ = true) : gi g d l = l := by
 induction l with
 | nil => rfl
 | cons x l ih => simp only [List.all_cons, Bool.and_eq_true] at h; simp only [gi, List.map_cons, afL h.1]; rw [show List.map (bA g d) l = l from ih h.2]
theorem Lt {v : Value} (h : wG v = true) : (bA g d) v = v := by
 unfold wG at h
 split at h
 ·rename_i cs
  rw [PG]; congr 1; exact Array.toList_inj.1 (by rw [Array.toList_map]; exact wg h)
 ·rename_i cs
  rw [afR]; congr 1; exact Array.toList_inj.1 (by rw [Array.toList_map]; exact wg h)
 ·exact afL h
theorem De (v : Value) : ((bA g d) v).cells = v.cells.map (bA g d) := by
 cases v <;> simp [Value.cells]
theorem Ya (v : Value) : ((bA g d) v).cells.toList = gi g d v.cells.toList := by rw [De, Array.toList_map]
theorem am4 (v : Value) : Value.oneCell' ((bA g d) v) = Value.oneCell' v := by
 cases v <;> simp [Value.oneCell']
theorem T7 (l : List Value) : (gi g d l).all Value.oneCell' = l.all Value.oneCell' := by
 simp only [gi, List.all_map]; congr 1; funext v; exact am4 v
theorem IP (v : Value) : tN ((bA g d) v) = (tN v).map fun a => (zD g d a.1, a.2) := by
 cases v with
 | pointer a =>
  cases a with
  | none => simp [tN]
  | some a =>
   obtain ⟨b, o, sp⟩ := a
   cases sp <;> simp [tN, yI]
 | _ => simp [tN]
theorem afQ (c a b : Value) : aM ((bA g d) c) ((bA g d) a) ((bA g d) b) = (aM c a b).map (bA g d) := by
 cases c with
 | bool t => cases t <;> simp [aM]
 | _ => simp [aM]
theorem ajP (v : Value) : tO ((bA g d) v) = (tO v).map (bA g d) := by
 cases v with
 | pointer a => cases a <;> simp [tO]
 | func fn f c => cases fn <;> simp [tO]
 | _ => simp [tO]
theorem ajK (off : Nat) (v : Value) : D6 off ((bA g d) v) = (D6 off v).map (bA g d) := by
 unfold D6;rw [IP]
 cases tN v <;> simp [yI]
theorem afP (n : Option Nat) (off : Nat) (v : Value) : j2 n off ((bA g d) v) = (j2 n off v).map (bA g d) := by
 cases v with
 | agg cs => cases n <;> simp [j2]
 | _ => simp [j2]
theorem ajL (e : Nat) (v i : Value) : nX e ((bA g d) v) ((bA g d) i) = (nX e v i).map (bA g d) := by
 cases v with
 | slice a n k =>
  cases a with
  | none => simp [nX]
  | some a =>
   obtain ⟨b, o, sp⟩ := a
   cases sp with
   | none =>
    cases i with
    | int k i => simp only [fR, xW, dP, yI, nX]; split <;> simp [yI]
    | _ => simp [nX, yI]
   | some sp => simp [nX, yI]
 | _ => simp [nX]
theorem afO (len e : Nat) (v i : Value) : iv len e ((bA g d) v) ((bA g d) i) = (iv len e v i).map (bA g d) := by
 cases v with
 | pointer a =>
  cases a with
  | none => simp [iv]
  | some a =>
   obtain ⟨b, o, sp⟩ := a
   cases sp with
   | none =>
    cases i with
    | int k i => simp only [PL, xW, dP, yI, iv]; split <;> simp [yI]
    | _ => simp [iv, yI]
   | some sp => simp [iv, yI]
 | _ => simp [iv]
theorem PJ (len : Nat) (n : Option Nat) (e : Nat) (v i : Value) : iT len n e ((bA g d) v) ((bA g d) i) = (iT len n e v i).map (bA g d) := by
 cases v with
 | agg cs =>
  cases i with
  | int k i =>
   simp only [PG, xW, iT]
   split
   ·cases n <;> simp
   ·rfl
  | _ => simp [iT]
 | _ => simp [iT]
theorem PI (v i : Value) : iS ((bA g d) v) ((bA g d) i) = (iS v i).map (bA g d) := by
 cases v with
 | string b =>
  cases i with
  | int k i =>
   simp only [FL, xW, iS]
   split
   ·rw [Option.map_map]; congr 1; funext x; simp
   ·rfl
  | _ => simp [iS]
 | _ => simp [iS]
theorem ajM (v : Value) : pL ((bA g d) v) = (pL v).map (bA g d) := by cases v <;> simp [pL]
theorem ajN (l : List Value) : ig (gi g d l) = (ig l).map (bA g d) := by
 match l with
 | [] => rfl
 | [x] => simp [gi, ig]
 | [x, y] => cases x <;> cases y <;> simp [gi, ig]
 | x :: y :: z :: l => simp [gi, ig]
theorem ajO (l : List Value) : i8 (gi g d l) = (i8 l).map (bA g d) := by
 match l with
 | [] => rfl
 | [x] => simp [gi, i8]
 | [x, y] => cases x <;> cases y <;> simp [gi, i8]
 | x :: y :: z :: l => simp [gi, i8]
theorem Df : ∀ xs ys : List Value, bq (gi g d xs) (gi g d ys) = bq xs ys := by
 intro xs
 induction xs with
 | nil => intro ys; cases ys <;> simp [gi, bq]
 | cons x xs ih =>
  intro ys
  cases ys with
  | nil => cases x <;> simp [gi, bq]
  | cons y ys =>
   have := ih ys;simp only [gi] at this
   cases x <;> cases y <;> simp [gi, bq, this]
theorem am5 (cl : TCls) (x y : Value) : oN cl ((bA g d) x) ((bA g d) y) = oN cl x y := by
 cases cl with
 | flat n =>
  cases x with
  | agg a =>
   cases y with
   | agg b =>
    simp only [PG, oN, Array.size_map, Array.toList_map];rw [show bq (List.map (bA g d) a.toList) (List.map (bA g d) b.toList) = bq a.toList b.toList from Df _ _]
   | _ => simp [oN]
  | _ => cases y <;> simp [oN]
 | bool => cases x <;> cases y <;> simp [oN]
 | ptr => cases x <;> cases y <;> simp [oN] <;> (rename_i a b; cases a <;> cases b <;> simp [oN])
 | slice => cases x <;> cases y <;> simp [oN] <;> (rename_i a _ _ b _ _; cases a <;> cases b <;> simp [oN])
 | map => cases x <;> cases y <;> simp [oN] <;> (rename_i a b; cases a <;> cases b <;> simp [oN])
 | func => cases x <;> cases y <;> simp [oN]
 | other => cases x <;> cases y <;> simp [oN]
theorem ajB {op : BinOp} {k : IntKind} {a b : Int} : (l7 op k a b).map (bA g d) = l7 op k a b := by
 cases op <;> simp [l7] <;> (split <;> simp)
theorem Xb {op : BinOp} {k : IntKind} {a b : Int} : (lS op k a b).map (bA g d) = lS op k a b := by
 unfold lS
 split
 ·rfl
 ·cases op <;> simp
theorem ajD {op : BinOp} {a b : ByteArray} : (ad7 op a b).map (bA g d) = ad7 op a b := by
 cases op <;> simp [ad7]
theorem afN (cl : TCls) (op : BinOp) (x y : Value) : Fe cl op ((bA g d) x) ((bA g d) y) = (Fe cl op x y).map (bA g d) := by
 cases op <;> simp only [Fe, am5, Option.map_map, Option.map_none] <;> (congr 1; funext b; simp)
theorem ajJ (cl : TCls) (op : BinOp) (x y : Value) : aj cl op ((bA g d) x) ((bA g d) y) = (aj cl op x y).map (bA g d) := by
 have key := afN (g := g) (d := d) cl op x y
 cases x with
 | int k a =>
  cases y with
  | int k' b => cases op <;> simp only [xW, aj, Xb] <;> (split <;> simp [ajB])
  | _ => simpa [aj] using key
 | string a =>
  cases y with
  | string b => simp [aj, ajD]
  | _ => simpa [aj] using key
 | _ => simpa [aj] using key
theorem am6 (op : UnOp) (x : Value) : pM op ((bA g d) x) = (pM op x).map (bA g d) := by cases op <;> cases x <;> simp [pM]
theorem afM (k : Option IntKind) (x : Value) : bI k ((bA g d) x) = (bI k x).map (bA g d) := by cases k <;> cases x <;> simp [bI]
theorem Lu (v : Value) (i : Nat) : ak ((bA g d) v) i = (ak v i).map (bA g d) := by cases v <;> simp [ak]
theorem Dj (v : Value) : my ((bA g d) v) = my v := by cases v <;> simp [my]
end
inductive Tr (α : Type) where
 | lf
 | nd (v : Option α) (l r : Tr α)
section
variable {α : Type}
def Tr.get : Tr α → Nat → Option α
 | .lf, _ => none
 | .nd v l r, i => match i with
  | 0 => v
  | i + 1 => match Nat.beq (i % 2) 0 with
   | true => l.get (i / 2)
   | false => r.get (i / 2)
def Tr.set (x : α) : Nat → Tr α → Nat → Option (Tr α)
 | 0, _, _ => none
 | k + 1, t, i => match i with
  | 0 => match t with
   | .lf => some (.nd (some x) .lf .lf)
   | .nd _ l r => some (.nd (some x) l r)
  | i + 1 => match Nat.beq (i % 2) 0 with
   | true => match t with
    | .lf => (Tr.set x k .lf (i / 2)).map fun l' => .nd none l' .lf
    | .nd v l r => (Tr.set x k l (i / 2)).map fun l' => .nd v l' r
   | false => match t with
    | .lf => (Tr.set x k .lf (i / 2)).map fun r' => .nd none .lf r'
    | .nd v l r => (Tr.set x k r (i / 2)).map fun r' => .nd v l r'
theorem Tr.get_set {x : α} : ∀ (k : Nat) {t t' : Tr α} {i : Nat}, Tr.set x k t i = some t' → ∀ j, t'.get j = if j = i then some x else t.get j := by
 intro k
 induction k with
 | zero => intro t t' i h; cases h
 | succ k ih =>
  intro t t' i h j
  cases i with
  | zero =>
   cases t with
   | lf => simp only [Tr.set] at h; cases h; cases j with
    | zero => rfl
    | succ j => simp only [Tr.get]; split <;> simp [Tr.get]
   | nd v l r => simp only [Tr.set] at h; cases h; cases j with
    | zero => rfl
    | succ j => simp [Tr.get]
  | succ i =>
   simp only [Tr.set] at h
   have beq : ∀ a : Nat, Nat.beq a 0 = (a == 0) := fun a => by cases a <;> simp [Nat.beq]
   have lf : ∀ j, (Tr.lf : Tr α).get j = none := fun j => by cases j <;> rfl
   cases hb : Nat.beq (i % 2) 0 with
   | true =>
    have hi : i % 2 = 0 := by rw [beq] at hb; simpa using hb
    rw [hb] at h;simp only at h
    have key : ∃ v l r l', Tr.set x k l (i / 2) = some l' ∧ t' = .nd v l' r ∧ ∀ j, t.get j = (Tr.nd v l r).get j := by
     cases t with
     | lf => obtain ⟨l', h1, e⟩ := aN.1 h; exact ⟨none, .lf, .lf, l', h1, e.symm, fun j => by rw [lf]; cases j with | zero => rfl | succ j => simp only [Tr.get]; split <;> rfl⟩
     | nd v l r => obtain ⟨l', h1, e⟩ := aN.1 h; exact ⟨v, l, r, l', h1, e.symm, fun j => rfl⟩
    obtain ⟨v, l, r, l', h1, rfl, hg⟩ := key;rw [hg]
    cases j with
    | zero => rfl
    | succ j =>
     simp only [Tr.get]
     cases hj : Nat.beq (j % 2) 0 with
     | true =>
      have hj' : j % 2 = 0 := by rw [beq] at hj; simpa using hj
      simp only;rw [ih h1]
      by_cases e : j / 2 = i / 2
      ·rw [if_pos e, if_pos (by omega)]
      ·rw [if_neg e, if_neg (by omega)]
     | false =>
      have hj' : j % 2 ≠ 0 := by rw [beq] at hj; simpa using hj
      simp only;rw [if_neg (by omega)]
   | false =>
    have hi : i % 2 ≠ 0 := by rw [beq] at hb; simpa using hb
    rw [hb] at h;simp only at h
    have key : ∃ v l r r', Tr.set x k r (i / 2) = some r' ∧ t' = .nd v l r' ∧ ∀ j, t.get j = (Tr.nd v l r).get j := by
     cases t with
     | lf => obtain ⟨l', h1, e⟩ := aN.1 h; exact ⟨none, .lf, .lf, l', h1, e.symm, fun j => by rw [lf]; cases j with | zero => rfl | succ j => simp only [Tr.get]; split <;> rfl⟩
     | nd v l r => obtain ⟨l', h1, e⟩ := aN.1 h; exact ⟨v, l, r, l', h1, e.symm, fun j => rfl⟩
    obtain ⟨v, l, r, l', h1, rfl, hg⟩ := key;rw [hg]
    cases j with
    | zero => rfl
    | succ j =>
     simp only [Tr.get]
     cases hj : Nat.beq (j % 2) 0 with
     | false =>
      have hj' : j % 2 ≠ 0 := by rw [beq] at hj; simpa using hj
      simp only;rw [ih h1]
      by_cases e : j / 2 = i / 2
      ·rw [if_pos e, if_pos (by omega)]
      ·rw [if_neg e, if_neg (by omega)]
     | true =>
      have hj' : j % 2 = 0 := by rw [beq] at hj; simpa using hj
      simp only;rw [if_neg (by omega)]
end
structure EH where
 n : Nat
 t : Tr AObj
def EH.get (E : EH) (b : Nat) : Option AObj := E.t.get b
def EH.set (E : EH) (b : Nat) (o : AObj) : Option EH := (Tr.set o 24 E.t b).map fun t => ⟨E.n, t⟩
def EH.push (E : EH) (o : AObj) : Option EH := (Tr.set o 24 E.t E.n).map fun t => ⟨E.n + 1, t⟩
section
variable (g d : Nat)
def Ls (e : MapEntry) : MapEntry := { e with key := bA g d e.key, val := bA g d e.val }
def L6 : AObj → AObj
 | .cells ro cs => .cells ro (gi g d cs)
 | .map es c => .map (es.map (Ls g d)) c
 | .dead => .dead
structure HR (F : List AObj) (E : EH) (H : AH) : Prop where
 len : F.length = d
 le : g ≤ E.n
 size : H.size = E.n + d
 get : ∀ b, H.get (zD g d b) = (E.get b).map (L6 g d)
 out : ∀ b, E.n ≤ b → E.get b = none
 fr : ∀ b, g ≤ b → b < g + d → H.get b = F[b - g]?
end
section
variable {g d : Nat} {F : List AObj} {E E' : EH} {H : AH}
theorem HR.lt (h : HR g d F E H) {b : Nat} {o : AObj} (hb : E.get b = some o) : b < E.n := by
 rcases Nat.lt_or_ge b E.n with h1 | h1
 ·exact h1
 ·rw [h.out b h1] at hb; cases hb
theorem HR.new (h : HR g d F E H) : H.size = zD g d E.n := by
 unfold zD; rw [if_neg (by have := h.le; omega)]; exact h.size
theorem HR.shlt (h : HR g d F E H) {b : Nat} (hb : b < E.n) : zD g d b < H.size := by
 rw [h.size]; unfold zD; split <;> omega
theorem HR.set (h : HR g d F E H) {b : Nat} {o : AObj} (hb : b < E.n) (hs : E.set b o = some E') : HR g d F E' (H.set (zD g d b) (L6 g d o)) := by
 obtain ⟨t, ht, rfl⟩ := aN.1 hs;have hg := Tr.get_set 24 ht;refine ⟨h.len, h.le, by rw [AH.size_set]; exact h.size, fun j => ?_, fun j hj => ?_, fun j h1 h2 => ?_⟩
 ·show _ = (t.get j).map _
  rw [hg j, AH.get_set]
  by_cases e : j = b
  ·subst e; rw [if_pos rfl, if_pos rfl, if_pos (h.shlt hb)]; rfl
  ·rw [if_neg (fun x => e (T5 x)), if_neg e]; exact h.get j
 ·show t.get j = none
  rw [hg j, if_neg (by have : E.n ≤ j := hj; omega)]; exact h.out j hj
 ·rw [AH.get_set_ne (by unfold zD; split <;> omega)]; exact h.fr j h1 h2
theorem HR.push (h : HR g d F E H) {o : AObj} (hs : E.push o = some E') : HR g d F E' (H.push (L6 g d o)) := by
 obtain ⟨t, ht, rfl⟩ := aN.1 hs;have hg := Tr.get_set 24 ht;have hle := h.le;have hsz := h.size;refine ⟨h.len, by show g ≤ E.n + 1; omega, by rw [AH.size_push, hsz]; show _ = E.n + 1 + d; omega, fun j => ?_, fun j hj => ?_, fun j h1 h2 => ?_⟩
 ·show _ = (t.get j).map _
  rw [hg j, AH.get_push, h.new]
  by_cases e : j = E.n
  ·subst e; rw [if_pos rfl, if_pos rfl]; rfl
  ·rw [if_neg (fun x => e (T5 x)), if_neg e]; exact h.get j
 ·show t.get j = none
  have : E.n + 1 ≤ j := hj;rw [hg j, if_neg (by omega)]; exact h.out j (by omega)
 ·rw [AH.get_push_old (by omega)]; exact h.fr j h1 h2
end
section
variable {g d : Nat}
theorem FK (cs : List Value) (o : Nat) (xs : List Value) : splice (gi g d cs) o (gi g d xs) = gi g d (splice cs o xs) := by
 simp [splice, gi, List.map_take, List.map_drop]
theorem Dh (places : Nat → Option (Nat × Nat)) : ∀ (parts : List (Nat × Value)) (zero : List Value), cI places (gi g d zero) (parts.map fun p => (p.1, (bA g d) p.2)) = (cI places zero parts).map (gi g d) := by
 intro parts
 induction parts with
 | nil => intro zero; rfl
 | cons p parts ih =>
  intro zero;obtain ⟨i, v⟩ := p;simp only [List.map_cons, cI]
  cases places i with
  | none => rfl
  | some q =>
   simp only [bo];rw [De, Array.size_map, Array.toList_map, show (gi g d zero).length = zero.length from pJ _]
   split
   ·rw [show List.map (bA g d) v.cells.toList = gi g d v.cells.toList from rfl, FK]; exact ih _
   ·rfl
theorem Yb (e : Nat) (x : Value) (lo hi : Option Value) : ec e ((bA g d) x) (lo.map (bA g d)) (hi.map (bA g d)) = (ec e x lo hi).map (bA g d) := by
 cases x with
 | slice a n e' =>
  have key : ∀ L R : Option Int, (L.bind fun l => R.bind fun h =>
   if 0 ≤ l ∧ l ≤ h ∧ h ≤ n then
    match a.map (yI g d) with
    | none => if n = 0 ∧ e' = 0 then some (.slice none 0 0) else none
    | some ⟨b, o, none⟩ => if e' = e ∧ 0 < e then some (.slice (some ⟨b, o + l.toNat * e, none⟩) (h.toNat - l.toNat) e) else none
    | _ => none
   else none : Option Value) = (L.bind fun l => R.bind fun h =>
   if 0 ≤ l ∧ l ≤ h ∧ h ≤ n then
    match a with
    | none => if n = 0 ∧ e' = 0 then some (.slice none 0 0) else none
    | some ⟨b, o, none⟩ => if e' = e ∧ 0 < e then some (.slice (some ⟨b, o + l.toNat * e, none⟩) (h.toNat - l.toNat) e) else none
    | _ => none
   else none : Option Value).map (bA g d) := by
   intro L R
   cases L with
   | none => rfl
   | some l =>
    cases R with
    | none => rfl
    | some r =>
     simp only [bo]
     split
     ·cases a with
      | none => simp only [Option.map_none]; split <;> simp
      | some a =>
       obtain ⟨b, o, sp⟩ := a
       cases sp with
       | none => simp only [dP, yI]; split <;> simp [yI]
       | some sp => simp [yI]
     ·rfl
  cases lo with
  | none =>
   cases hi with
   | none => simp only [fR, ec, Option.map_none]; exact key (some 0) (some n)
   | some h => simp only [fR, ec, dP, Dj]; exact key (some 0) (my h)
  | some l =>
   cases hi with
   | none => simp only [fR, ec, dP, Dj]; exact key (my l) (some n)
   | some h => simp only [fR, ec, dP, Dj]; exact key (my l) (my h)
 | _ => simp [ec]
theorem PK {x hi mx v : Value} (h : iU x hi mx = some v) : iU ((bA g d) x) ((bA g d) hi) ((bA g d) mx) = some ((bA g d) v) := by
 unfold iU at h
 split at h
 ·cases h; simp [iU]
 ·cases h; simp [iU, yI]
 ·cases h
theorem afJ (v : Value) : qq ((bA g d) v) = qq v := by cases v <;> simp [qq]
theorem Dg (cl : KCls) (k : Value) : ir cl ((bA g d) k) = ir cl k := by
 cases cl <;> cases k <;> simp [ir]
 rename_i n cs
 congr 2
 funext v; exact afJ v
theorem afK (cl : KCls) (a b : Value) : j0 cl ((bA g d) a) ((bA g d) b) = j0 cl a b := by
 cases cl with
 | flat n =>
  cases a <;> cases b <;> simp [j0]
  rename_i x y
  rw [show bq (List.map (bA g d) x.toList) (List.map (bA g d) y.toList) = bq x.toList y.toList from Df _ _]
 | int => cases a <;> cases b <;> simp [j0]
 | string => cases a <;> cases b <;> simp [j0]
theorem t8 (cl : KCls) (k : Value) : ∀ (es : List MapEntry) (i : Nat), aV cl ((bA g d) k) (es.map (Ls g d)) i = (aV cl k es i).map fun r => r.map fun p => (p.1, (bA g d) p.2) := by
 intro es
 induction es with
 | nil => intro i; rfl
 | cons e es ih =>
  intro i;simp only [List.map_cons, aV, Ls, afK]
  cases j0 cl k e.key with
  | none => rfl
  | some b =>
   simp only [bo]
   cases b with
   | true => simp
   | false => simp only [Bool.false_eq_true, if_false]; exact ih _
theorem PH (v : Value) (args : List Value) : b5 ((bA g d) v) (gi g d args) = (b5 v args).map fun r => (r.1, gi g d r.2) := by
 cases v with
 | func fn f c => cases fn <;> simp [b5, gi]
 | _ => simp [b5]
end
def pV (E : EH) (b : Nat) : Option (List Value) :=
 match E.get b with
 | some (.cells _ cs) => some cs
 | _ => none
def Zp (v : Value) (E : EH) : Option Value := (tN v).bind fun a => (pV E a.1).bind fun cs => cs[a.2]?
def Zq (n : Nat) (v : Value) (E : EH) : Option Value :=
 (tN v).bind fun a => (pV E a.1).bind fun cs => if a.2 + n ≤ cs.length then some (.agg ((cs.drop a.2).take n).toArray) else none
def eSt (n : Nat) (v x : Value) (E : EH) : Option EH :=
 (tN v).bind fun a => match E.get a.1 with
  | some (.cells false cs) => if x.cells.size = n ∧ a.2 + n ≤ cs.length ∧ x.cells.toList.all Value.oneCell' = true then E.set a.1 (.cells false (splice cs a.2 x.cells.toList)) else none
  | _ => none
def alW (cs : List Value) (E : EH) : Option (Value × EH) := (E.push (.cells false cs)).map fun E' => (.pointer (some ⟨E.n, 0, none⟩), E')
def Ex (n e : Nat) (cs : List Value) (E : EH) : Option (Value × EH) := (E.push (.cells false cs)).map fun E' => (.slice (some ⟨E.n, 0, none⟩) n e, E')
def Ew (v : Value) (E : EH) : Option Value :=
 match v with
 | .map none => some (.int .i64 0)
 | .map (some b) => match E.get b with
  | some (.map es _) => some (.int .i64 es.length)
  | _ => none
 | _ => none
def UY (e : Nat) (x : Value) (E : EH) : Option (Nat × List Value) :=
 match x with
 | .slice none n _ => if n = 0 then some (0, []) else none
 | .slice (some ⟨b, o, none⟩) m _ => if m = 0 then some (0, []) else (pV E b).bind fun cs => if o + m * e ≤ cs.length then some (m, (cs.drop o).take (m * e)) else none
 | _ => none
def alU (e bytes : Nat) (s x : Value) (E : EH) : Option (Value × EH) :=
 (UY e x E).bind fun r =>
  if r.2.all Value.oneCell' = true ∧ 0 < e then
   match s with
   | .slice none n k => if n = 0 ∧ k = 0 then (if r.1 = 0 then some (.slice none 0 0, E) else if r.1 * bytes ≤ room ∧ r.1 ≤ room then Ex r.1 e r.2 E else none) else none
   | .slice (some ⟨b, o, none⟩) n e' =>
    if r.1 = 0 then some (s, E)
    else if e' = 0 then (if n = 0 ∧ r.1 * bytes ≤ room ∧ r.1 ≤ room then Ex r.1 e r.2 E else none)
    else match E.get b with
     | some (.cells false cs) =>
      if e' = e ∧ o + n * e ≤ cs.length ∧ (n + r.1) * bytes ≤ room ∧ n + r.1 ≤ room then (E.set b .dead).bind fun E1 => Ex (n + r.1) e ((cs.drop o).take (n * e) ++ r.2) E1 else none
     | _ => none
   | _ => none
  else none
def Zr (zero : List Value) (e bytes : Nat) (len cap : Value) (E : EH) : Option (Value × EH) :=
 match len, cap with
 | .int _ l, .int _ c => if 0 ≤ l ∧ l = c ∧ l.toNat * bytes ≤ room ∧ l.toNat ≤ room ∧ 0 < e ∧ zero.length = e then
  Ex l.toNat e (List.replicate l.toNat zero).flatten E else none
 | _, _ => none
def wH (v : Value) (E : EH) : Option (List MapEntry × Nat) :=
 match v with
 | .map none => some ([], 0)
 | .map (some b) => match E.get b with
  | some (.map es c) => some (es, c)
  | _ => none
 | _ => none
def zL (fl : KCls) (zero : Value) (m k : Value) (ok : Bool) (E : EH) : Option Value :=
 if ir fl k = true then (wH m E).bind fun es => (aV fl k es.1 0).map fun r => match r with
  | some (_, v) => if ok then .tuple #[v, .bool true] else v
  | none => if ok then .tuple #[zero, .bool false] else zero
 else none
def Gb (fl : KCls) (m k x : Value) (E : EH) : Option EH :=
 if ir fl k = true then match m with
 | .map (some b) => match E.get b with
  | some (.map es c) => (aV fl k es 0).bind fun r => match r with
   | some (i, _) => E.set b (.map (es.modify i fun e => { e with key := k, val := x }) c)
   | none => E.set b (.map (es ++ [{ key := k, val := x, born := c }]) (c + 1))
  | _ => none
 | _ => none
 else none
def F5 (fl : KCls) (m k : Value) (E : EH) : Option EH :=
 if ir fl k = true then match m with
 | .map (some b) => match E.get b with
  | some (.map es c) => (aV fl k es 0).bind fun r => match r with
   | some (i, _) => E.set b (.map (es.eraseIdx i) c)
   | none => E.set b (.map es c)
  | _ => none
 | _ => none
 else none
def dx (g d : Nat) (F : List AObj) (x : Option (Value × EH)) (y : Option (Value × AH)) : Prop := ∀ v E', x = some (v, E') → ∃ H', y = some (bA g d v, H') ∧ HR g d F E' H'
def ahD (g d : Nat) (F : List AObj) (x : Option EH) (y : Option AH) : Prop := ∀ E', x = some E' → ∃ H', y = some H' ∧ HR g d F E' H'
section
variable {g d : Nat} {F : List AObj} {E E' : EH} {H : AH}
theorem HR.cells (h : HR g d F E H) (b : Nat) : dq H (zD g d b) = (pV E b).map (gi g d) := by
 unfold dq pV;rw [h.get b]
 cases E.get b with
 | none => rfl
 | some o => cases o <;> rfl
theorem HR.ld1 (h : HR g d F E H) (v : Value) : au ((bA g d) v) H = (Zp v E).map (bA g d) := by
 unfold au Zp;rw [IP]
 cases tN v with
 | none => rfl
 | some a =>
  simp only [dP, bo, h.cells]
  cases pV E a.1 <;> simp [gi]
theorem HR.ldN (h : HR g d F E H) (n : Nat) (v : Value) : aC n ((bA g d) v) H = (Zq n v E).map (bA g d) := by
 unfold aC Zq;rw [IP]
 cases tN v with
 | none => rfl
 | some a =>
  simp only [dP, bo, h.cells]
  cases pV E a.1 with
  | none => rfl
  | some cs =>
   simp only [dP, bo, gi, pJ]
   split
   ·simp [List.map_take, List.map_drop]
   ·rfl
theorem HR.st (h : HR g d F E H) (n : Nat) (v x : Value) : ahD g d F (eSt n v x E) (dc n ((bA g d) v) ((bA g d) x) H) := by
 intro E' he;unfold eSt at he;unfold dc;rw [IP];obtain ⟨a, ha, he⟩ := aG.1 he;rw [ha];simp only [dP, bo, h.get]
 split at he
 ·rename_i cs hcs
  split at he
  ·rename_i hc
   rw [hcs];simp only [dP, L6]
   rw [De, Array.size_map, Array.toList_map, show (gi g d cs).length = cs.length from pJ _, show (List.map (bA g d) x.cells.toList).all Value.oneCell' = x.cells.toList.all Value.oneCell' from T7 _, if_pos hc,
    show splice (gi g d cs) a.2 (List.map (bA g d) x.cells.toList) = gi g d (splice cs a.2 x.cells.toList) from FK _ _ _]
   exact ⟨_, rfl, h.set (h.lt hcs) he⟩
  ·cases he
 ·cases he
theorem HR.new' (h : HR g d F E H) (cs : List Value) : dx g d F (alW cs E) (some (ajC (gi g d cs) H)) := by
 intro v E' he;obtain ⟨E1, h1, e⟩ := aN.1 he;cases e;exact ⟨H.push (L6 g d (.cells false cs)), by simp [ajC, h.new, yI, L6], h.push h1⟩
theorem HR.rowP (h : HR g d F E H) (n e : Nat) (cs : List Value) : dx g d F (Ex n e cs E) (some (.slice (some ⟨H.size, 0, none⟩) n e, H.push (.cells false (gi g d cs)))) := by
 intro v E' he;obtain ⟨E1, h1, e⟩ := aN.1 he;cases e;exact ⟨H.push (L6 g d (.cells false cs)), by simp [h.new, yI, L6], h.push h1⟩
theorem HR.lenM (h : HR g d F E H) (v : Value) : mz ((bA g d) v) H = (Ew v E).map (bA g d) := by
 cases v with
 | map r =>
  cases r with
  | none => simp [mz, Ew]
  | some b =>
   simp only [IO, dP, mz, Ew, h.get]
   cases E.get b with
   | none => rfl
   | some o => cases o <;> simp [L6]
 | _ => simp [mz, Ew]
theorem HR.row (h : HR g d F E H) (e : Nat) (x : Value) : kL e ((bA g d) x) H = (UY e x E).map fun r => (r.1, gi g d r.2) := by
 cases x with
 | slice a n k =>
  cases a with
  | none => simp only [fR, Option.map_none, kL, UY]; split <;> rfl
  | some a =>
   obtain ⟨b, o, sp⟩ := a
   cases sp with
   | some sp => simp [kL, UY, yI]
   | none =>
    simp only [fR, dP, yI, kL, UY, h.cells]
    split
    ·rfl
    ·cases pV E b with
     | none => rfl
     | some cs =>
      simp only [dP, bo, gi, pJ]
      split
      ·simp [List.map_take, List.map_drop]
      ·rfl
 | _ => simp [kL, UY]
theorem HR.mapOf (h : HR g d F E H) (v : Value) : jD ((bA g d) v) H = (wH v E).map fun r => (r.1.map (Ls g d), r.2) := by
 cases v with
 | map r =>
  cases r with
  | none => simp [jD, wH]
  | some b =>
   simp only [IO, dP, jD, wH, h.get]
   cases E.get b with
   | none => rfl
   | some o => cases o <;> simp [L6]
 | _ => simp [jD, wH]
theorem HR.lookup (h : HR g d F E H) (fl : KCls) {zero : Value} (hz : (bA g d) zero = zero) (m k : Value) (ok : Bool) : cu fl zero ((bA g d) m) ((bA g d) k) ok H = (zL fl zero m k ok E).map (bA g d) := by
 unfold cu zL;rw [Dg]
 split
 ·rw [h.mapOf]
  cases wH m E with
  | none => rfl
  | some es =>
   simp only [dP, bo, t8]
   cases aV fl k es.1 0 with
   | none => rfl
   | some r =>
    cases r with
    | none => cases ok <;> simp [hz]
    | some p => cases ok <;> simp
 ·rfl
theorem HR.update (h : HR g d F E H) (fl : KCls) (m k x : Value) : ahD g d F (Gb fl m k x E) (dG fl ((bA g d) m) ((bA g d) k) ((bA g d) x) H) := by
 intro E' he;unfold Gb at he
 split at he
 ·rename_i hk
  split at he
  ·rename_i b
   split at he
   ·rename_i es c hb
    obtain ⟨r, hr, he⟩ := aG.1 he
    have hg : H.get (zD g d b) = some (.map (es.map (Ls g d)) c) := by rw [h.get, hb]; rfl
    have hf := t8 (g := g) (d := d) fl k es 0;rw [hr] at hf;simp only [IO, dP, dG, Dg, hk, if_true, hg]
    cases r with
    | some p =>
     have hf : aV fl ((bA g d) k) (es.map (Ls g d)) 0 = some (some (p.1, (bA g d) p.2)) := hf;rw [hf];refine ⟨_, rfl, ?_⟩;have := h.set (h.lt hb) he;simp only [L6] at this;show HR g d F E' (H.set (zD g d b) (.map ((es.map (Ls g d)).modify p.1 fun e => { e with key := (bA g d) k, val := (bA g d) x }) c));rw [show (es.map (Ls g d)).modify p.1 (fun e => { e with key := (bA g d) k, val := (bA g d) x }) = (es.modify p.1 fun e => { e with key := k, val := x }).map (Ls g d) from ?_]
     ·exact this
     ·apply List.ext_getElem?
      intro i;simp only [List.getElem?_modify, tA]
      cases es[i]? with
      | none => rfl
      | some e => simp only [dP, Option.map_map]; split <;> rfl
    | none =>
     have hf : aV fl ((bA g d) k) (es.map (Ls g d)) 0 = some none := hf;rw [hf];refine ⟨_, rfl, ?_⟩;have := h.set (h.lt hb) he;simp only [L6, Kv, List.map_cons, List.map_nil, Ls] at this;exact this
   ·cases he
  ·cases he
 ·cases he
theorem HR.delete (h : HR g d F E H) (fl : KCls) (m k : Value) : ahD g d F (F5 fl m k E) (mw fl ((bA g d) m) ((bA g d) k) H) := by
 intro E' he;unfold F5 at he
 split at he
 ·rename_i hk
  split at he
  ·rename_i b
   split at he
   ·rename_i es c hb
    obtain ⟨r, hr, he⟩ := aG.1 he
    have hg : H.get (zD g d b) = some (.map (es.map (Ls g d)) c) := by rw [h.get, hb]; rfl
    have hf := t8 (g := g) (d := d) fl k es 0;rw [hr] at hf;simp only [IO, dP, mw, Dg, hk, if_true, hg]
    cases r with
    | some p =>
     have hf : aV fl ((bA g d) k) (es.map (Ls g d)) 0 = some (some (p.1, (bA g d) p.2)) := hf;rw [hf];refine ⟨_, rfl, ?_⟩;have := h.set (h.lt hb) he;simp only [L6] at this;show HR g d F E' (H.set (zD g d b) (.map ((es.map (Ls g d)).eraseIdx p.1) c));rw [show (es.map (Ls g d)).eraseIdx p.1 = (es.eraseIdx p.1).map (Ls g d) from by simp [List.eraseIdx_eq_take_drop_succ, List.map_take, List.map_drop]];exact this
    | none =>
     have hf : aV fl ((bA g d) k) (es.map (Ls g d)) 0 = some none := hf;rw [hf];exact ⟨_, rfl, h.set (h.lt hb) he⟩
   ·cases he
  ·cases he
 ·cases he
theorem HR.make (h : HR g d F E H) {zero : List Value} (hz : gi g d zero = zero) (e by' : Nat) (len cap : Value) : dx g d F (Zr zero e by' len cap E) (kB zero e by' ((bA g d) len) ((bA g d) cap) H) := by
 intro v E' he;unfold Zr at he
 split at he
 ·split at he
  ·rename_i k1 l k2 c hc
   obtain ⟨H', h1, h2⟩ := h.rowP _ _ _ v E' he;refine ⟨H', ?_, h2⟩;simp only [xW, kB];rw [if_pos hc, ← h1]
   congr 4
   rw [gi, List.map_flatten, List.map_replicate, show List.map (bA g d) zero = zero from hz]
  ·cases he
 ·cases he
theorem HR.app (h : HR g d F E H) (e by' : Nat) (x y : Value) : dx g d F (alU e by' x y E) (dN e by' ((bA g d) x) ((bA g d) y) H) := by
 intro v E' he;unfold alU at he;unfold dN;rw [h.row];obtain ⟨r, hr, he⟩ := aG.1 he;rw [hr];simp only [dP, bo];rw [show (gi g d r.2).all Value.oneCell' = r.2.all Value.oneCell' from T7 _]
 split at he
 ·rename_i hc
  rw [if_pos hc]
  split at he
  ·rename_i n k
   simp only [fR, Option.map_none]
   split at he
   ·rename_i h0
    rw [if_pos h0]
    split at he
    ·rename_i h1
     rw [if_pos h1]; cases he; exact ⟨H, by simp, h⟩
    ·rename_i h1
     rw [if_neg h1]
     split at he
     ·rename_i h2
      rw [if_pos h2];exact h.rowP _ _ _ v E' he
     ·cases he
   ·cases he
  ·rename_i _ b o n e' _
   simp only [fR, dP, yI]
   split at he
   ·rename_i h1
    rw [if_pos h1]; cases he; exact ⟨H, by simp [yI], h⟩
   ·rename_i h1
    rw [if_neg h1]
    split at he
    ·rename_i h2
     rw [if_pos h2]
     split at he
     ·rename_i h3
      rw [if_pos h3];exact h.rowP _ _ _ v E' he
     ·cases he
    ·rename_i h2
     rw [if_neg h2]
     split at he
     ·rename_i cs hb
      have hg : H.get (zD g d b) = some (.cells false (gi g d cs)) := by rw [h.get, hb]; rfl
      rw [hg];simp only;rw [show (gi g d cs).length = cs.length from pJ _]
      split at he
      ·rename_i h3
       rw [if_pos h3];obtain ⟨E1, h4, he⟩ := aG.1 he;have hs := h.set (h.lt hb) h4;obtain ⟨H', h5, h6⟩ := hs.rowP _ _ _ v E' he;refine ⟨H', ?_, h6⟩;rw [← h5, AH.size_set];simp [L6, gi, List.map_take, List.map_drop]
      ·cases he
     ·cases he
  ·cases he
 ·cases he
end
abbrev TF := Nat → List Value → EH → Option (Value × EH)
def Dp (P : Program) (b : Builtin) (argTypes : Array TypeId) (args : List Value) (E : EH) : Option (Value × EH) :=
 match b, args with
 | .len, [x] => match (argTypes[0]?).bind fun t => P.underlying t with
  | some (.slice _) => match x with | .slice _ _ _ => (pL x).map (·, E) | _ => none
  | some .string => match x with | .string _ => (pL x).map (·, E) | _ => none
  | some (.map _ _) => (Ew x E).map (·, E)
  | _ => none
 | .max, args => (ig args).map (·, E)
 | .min, args => (i8 args).map (·, E)
 | .append, [s, x] => (argTypes[0]?).bind fun t => (b4 P t).bind fun el => (ca P el).bind fun e => (eZ P el).bind fun by' => (bE P el).bind fun z =>
  if z.cells.size = e ∧ (argTypes[1]?).bind (fun u => b4 P u) = some el then alU e by' s x E else none
 | .delete, [m, k] => (argTypes[0]?).bind fun t => (b8 P t).bind fun kt => (cp P kt.1).bind fun fl => (F5 fl m k E).map fun E' => (.tuple #[], E')
 | _, _ => none
def tRd (P : Program) (ev : Operand → Value) (op : Op) (E : EH) : Option Value :=
 match op with
 | .load t a => (eD P t).bind fun g => match g with
  | some n => Zq n (ev a) E
  | none => Zp (ev a) E
 | .lookup t m k ok => (b8 P t).bind fun kt => (cp P kt.1).bind fun fl => (bE P kt.2).bind fun z => zL fl z (ev m) (ev k) ok E
 | .call c => match c.args.toList.map ev with
  | [x] => match (c.argTypes[0]?).bind fun t => P.underlying t with
   | some (.slice _) => match x with | .slice _ _ _ => pL x | _ => none
   | some .string => match x with | .string _ => pL x | _ => none
   | some (.map _ _) => Ew x E
   | _ => none
  | _ => none
 | _ => none
def wn (P : Program) (call : TF) (ev : Operand → Value) (o : Oper) (E : EH) : Option (Value × EH) :=
 match o.op with
 | .move x => some (ev x, E)
 | .assign x => some (ev x, E)
 | .pick c a b => (aM (ev c) (ev a) (ev b)).map (·, E)
 | .alloc t => (bE P t).bind fun z => alW z.cells.toList E
 | .box _ x => alW (ev x).cells.toList E
 | .build t parts => match P.underlying t with
  | some (.struct fs) => (bE P t).bind fun z => (iV P fs.toList).bind fun ps => (cI (ps[·]?) z.cells.toList (parts.toList.map fun p => (p.1, ev p.2))).map fun cs => (.agg cs.toArray, E)
  | some (.array _ el) => (bE P t).bind fun z => (ca P el).bind fun e => (cI (fun i => some (i * e, e)) z.cells.toList (parts.toList.map fun p => (p.1, ev p.2))).map fun cs => (.agg cs.toArray, E)
  | _ => none
 | .buildSlice t len parts => (b4 P t).bind fun el => (ca P el).bind fun e => (bE P el).bind fun z =>
  if 0 < e ∧ z.cells.size = e ∧ len * e ≤ 2 ^ 24 then
   (cI (fun i => some (i * e, e)) (List.replicate len z.cells.toList).flatten (parts.toList.map fun p => (p.1, ev p.2))).bind fun cs => Ex len e cs E
  else none
 | .load t a => (eD P t).bind fun g => match g with
  | some n => (Zq n (ev a) E).map (·, E)
  | none => (Zp (ev a) E).map (·, E)
 | .store t a x => (ca P t).bind fun n => (eSt n (ev a) (ev x) E).map fun E' => (undef, E')
 | .nilCheck x => (tO (ev x)).map (·, E)
 | .binOp op t x y _ => (aj (ym P t) op (ev x) (ev y)).map (·, E)
 | .unOp op _ x => (pM op (ev x)).map (·, E)
 | .convert src dst x => match P.underlying src with
  | some _ => (bI (qr P dst) (ev x)).map (·, E)
  | none => none
 | .makeFunc fn first captured => some (.func fn (first.map ev) (captured.map ev), E)
 | .makeMap _ none => (E.push (.map [] 0)).map fun E' => (.map (some E.n), E')
 | .makeSlice t l c => (b4 P t).bind fun el => (ca P el).bind fun e => (eZ P el).bind fun by' => (bE P el).bind fun z => Zr z.cells.toList e by' (ev l) (ev c) E
 | .slice t x lo hi none => (b4 P t).bind fun el => (ca P el).bind fun e => (ec e (ev x) (lo.map ev) (hi.map ev)).map (·, E)
 | .slice t x none (some hi) (some mx) => (b4 P t).bind fun el => (ca P el).bind fun _ => (iU (ev x) (ev hi) (ev mx)).map (·, E)
 | .fieldAddr s x f => (jK P s f).bind fun f => (ca P f.type).bind fun n => if n = 0 then none else (D6 f.offset (ev x)).map (·, E)
 | .field s x f => (jK P s f).bind fun f => (eD P f.type).bind fun n => (j2 n f.offset (ev x)).map (·, E)
 | .indexAddr t x i => match P.underlying t with
  | some (.slice el) => (ca P el).bind fun e => (nX e (ev x) (ev i)).map (·, E)
  | some (.array len el) => (ca P el).bind fun e => (iv len e (ev x) (ev i)).map (·, E)
  | _ => none
 | .index t x i => match P.underlying t with
  | some (.array len el) => (ca P el).bind fun e => (eD P el).bind fun n => (iT len n e (ev x) (ev i)).map (·, E)
  | some .string => (iS (ev x) (ev i)).map (·, E)
  | _ => none
 | .lookup t m k ok => (b8 P t).bind fun kt => (cp P kt.1).bind fun fl => (bE P kt.2).bind fun z => (zL fl z (ev m) (ev k) ok E).map (·, E)
 | .mapUpdate t m k x => (b8 P t).bind fun kt => (cp P kt.1).bind fun fl => (Gb fl (ev m) (ev k) (ev x) E).map fun E' => (undef, E')
 | .extract t i => (ak (ev t) i).map (·, E)
 | .call c => match c.callee with
  | .builtin b => Dp P b c.argTypes (c.args.toList.map ev) E
  | .value f => (b5 (ev f) (c.args.toList.map ev)).bind fun fa => call fa.1 fa.2 E
  | _ => none
 | _ => none
section
variable {P : Program} {g d : Nat} {F : List AObj} {E E' : EH} {H : AH}
theorem jG {t : TypeId} {z : Value} (h : bE P t = some z) : (bA g d) z = z ∧ gi g d z.cells.toList = z.cells.toList := by
 obtain ⟨i, _, _, h1, h2⟩ := cD h;exact ⟨Lt h2, wg h1⟩
theorem dx.val (h : HR g d F E H) {x y : Option Value} (e : y = x.map (bA g d)) : dx g d F (x.map (·, E)) (y.map (·, H)) := by
 intro v E' hx;obtain ⟨z, hz, e1⟩ := aN.1 hx;cases e1;rw [e, hz];exact ⟨H, rfl, h⟩
theorem dx.bind {α : Type} {o : Option α} {f : α → Option (Value × EH)} {f' : α → Option (Value × AH)} (h : ∀ a, o = some a → dx g d F (f a) (f' a)) : dx g d F (o.bind f) (o.bind f') := by
 intro v E' hx;obtain ⟨a, ha, hx⟩ := aG.1 hx;rw [ha];exact h a ha v E' hx
theorem dx.no {y : Option (Value × AH)} : dx g d F none y := fun v E' h => by cases h
theorem dx.ite {c : Prop} [Decidable c] {x : Option (Value × EH)} {y : Option (Value × AH)} (h : c → dx g d F x y) : dx g d F (if c then x else none) (if c then y else none) := by
 intro v E' hx
 split at hx
 ·rename_i hc; rw [if_pos hc]; exact h hc v E' hx
 ·cases hx
theorem dx.heap {x : Option EH} {y : Option AH} (v : Value) (hv : (bA g d) v = v) (h : ahD g d F x y) : dx g d F (x.map fun E' => (v, E')) (y.map fun H' => (v, H')) := by
 intro v' E' hx;obtain ⟨E1, h1, e⟩ := aN.1 hx;cases e;obtain ⟨H', h2, h3⟩ := h E' h1;exact ⟨H', by rw [h2, hv]; rfl, h3⟩
theorem MO {ev ev' : Operand → Value} {l : List Operand} (h : ∀ x ∈ l, ev' x = (bA g d) (ev x)) : l.map ev' = gi g d (l.map ev) := by
 rw [gi, List.map_map];exact List.map_congr_left h
theorem Jn (h : HR g d F E H) (b : Builtin) (ats : Array TypeId) (args : List Value) : dx g d F (Dp P b ats args E) (cj P b ats (gi g d args) H) := by
 intro v E' hx;unfold Dp at hx
 split at hx
 ·rename_i x
  simp only [gi, List.map_cons, List.map_nil, cj]
  split at hx
  ·rename_i hu
   rw [hu];simp only
   split at hx
   ·simp only [fR]
    exact dx.val h (by rw [← fR, ajM]) v E' hx
   ·cases hx
  ·rename_i hu
   rw [hu];simp only
   split at hx
   ·simp only [FL]
    exact dx.val h (by simp [pL]) v E' hx
   ·cases hx
  ·rename_i hu
   rw [hu];exact dx.val h (h.lenM _) v E' hx
  ·cases hx
 ·exact dx.val h (ajN _) v E' hx
 ·exact dx.val h (ajO _) v E' hx
 ·simp only [gi, List.map_cons, List.map_nil, cj]
  exact dx.bind (fun t _ => dx.bind fun el _ => dx.bind fun e _ => dx.bind fun by' _ => dx.bind fun z _ => dx.ite fun _ => h.app _ _ _ _) v E' hx
 ·simp only [gi, List.map_cons, List.map_nil, cj]
  exact dx.bind (fun t _ => dx.bind fun kt _ => dx.bind fun fl _ => dx.heap _ (by simp) (h.delete _ _ _)) v E' hx
 ·cases hx
theorem ak6 (h : HR g d F E H) {ev ev' : Operand → Value} {op : Op} (hev : ∀ x, x ∈ op.operands.toList → ev' x = (bA g d) (ev x)) : Av P ev' op H = (tRd P ev op E).map (bA g d) := by
 cases op with
 | load t a =>
  simp only [Av, tRd];rw [hev a (by simp [Op.operands])]
  cases eD P t with
  | none => rfl
  | some n => cases n with
   | none => exact h.ld1 _
   | some n => exact h.ldN _ _
 | lookup t m k ok =>
  simp only [Av, tRd];rw [hev m (by simp [Op.operands]), hev k (by simp [Op.operands])]
  cases b8 P t with
  | none => rfl
  | some kt =>
   simp only [bo]
   cases cp P kt.1 with
   | none => rfl
   | some fl =>
    simp only [bo]
    cases hz : bE P kt.2 with
    | none => rfl
    | some z => exact h.lookup fl (jG hz).1 _ _ _
 | call c =>
  have ha : c.args.toList.map ev' = gi g d (c.args.toList.map ev) := MO fun x hx => hev x (by simp only [Op.operands, Call.operands, Array.toList_append, List.mem_append]; exact .inr hx);simp only [Av, tRd];rw [ha]
  generalize c.args.toList.map ev = l
  match l with
  | [] => rfl
  | [x] =>
   simp only [gi, List.map_cons, List.map_nil]
   generalize (c.argTypes[0]?).bind (fun t => P.underlying t) = u
   cases u with
   | none => rfl
   | some u => cases u <;> first | rfl | exact h.lenM _ | (cases x <;> simp [pL])
  | x :: y :: l => rfl
 | _ => rfl
def rk (g d : Nat) (F : List AObj) (c : TF) (c' : bg) : Prop := ∀ (E : EH) (H : AH) f args, HR g d F E H → dx g d F (c f args E) (c' f (gi g d args) H)
theorem amE (h : HR g d F E H) {c : TF} {c' : bg} (hc : rk g d F c c') {ev ev' : Operand → Value} {o : Oper} (hev : ∀ x, x ∈ o.op.operands.toList → ev' x = (bA g d) (ev x)) :
 dx g d F (wn P c ev o E) (dK P c' ev' o H) := by
 obtain ⟨dst, op, type, pos, after, guard⟩ := o;simp only at hev
 have fill : ∀ (parts : Array (Nat × Operand)), (∀ x, x ∈ (parts.toList.map (·.2)) → ev' x = (bA g d) (ev x)) → (parts.toList.map fun p => (p.1, ev' p.2)) = (parts.toList.map fun p => (p.1, ev p.2)).map fun p => (p.1, (bA g d) p.2) := by
  intro parts hp;rw [List.map_map];refine List.map_congr_left fun p hpm => ?_;simp only [Function.comp];rw [hp p.2 (List.mem_map_of_mem hpm)]
 have arr : ∀ (l : Array Operand), (∀ x ∈ l.toList, ev' x = (bA g d) (ev x)) → l.map ev' = (l.map ev).map (bA g d) := by
  intro l hl;apply Array.toList_inj.1;rw [Array.toList_map, Array.toList_map, Array.toList_map];exact MO hl
 cases op
 case move x => intro v E' hx; simp only [wn] at hx; cases hx; exact ⟨H, by simp only [dK]; rw [hev x (by simp [Op.operands])], h⟩
 case assign x => intro v E' hx; simp only [wn] at hx; cases hx; exact ⟨H, by simp only [dK]; rw [hev x (by simp [Op.operands])], h⟩
 case pick k a b =>
  simp only [wn, dK];rw [hev k (by simp [Op.operands]), hev a (by simp [Op.operands]), hev b (by simp [Op.operands])];exact dx.val h (afQ _ _ _)
 case alloc t =>
  intro v E' hx;simp only [wn] at hx;simp only [dK];obtain ⟨z, hz, hx⟩ := aG.1 hx;rw [hz];have := h.new' _ v E' hx;rw [(jG hz).2] at this;exact this
 case box t x =>
  simp only [wn, dK];rw [hev x (by simp [Op.operands]), Ya];exact h.new' _
 case build t parts =>
  have hp := fill parts fun x hx => hev x (by simpa [Op.operands] using hx);intro v E' hx;simp only [wn] at hx;simp only [dK];rw [hp]
  split at hx
  ·rename_i fs hu
   rw [hu];simp only;obtain ⟨z, hz, hx⟩ := aG.1 hx;obtain ⟨ps, hps, hx⟩ := aG.1 hx;obtain ⟨cs, hcs, e⟩ := aN.1 hx;cases e;have hf := Dh (g := g) (d := d) (ps[·]?) (parts.toList.map fun p => (p.1, ev p.2)) z.cells.toList;rw [(jG hz).2, hcs] at hf;rw [hz, hps];simp only [bo];rw [hf];exact ⟨H, by simp, h⟩
  ·rename_i el hu
   rw [hu];simp only;obtain ⟨z, hz, hx⟩ := aG.1 hx;obtain ⟨e, he, hx⟩ := aG.1 hx;obtain ⟨cs, hcs, e⟩ := aN.1 hx;cases e;have hf := Dh (g := g) (d := d) (fun i => some (i * e, e)) (parts.toList.map fun p => (p.1, ev p.2)) z.cells.toList;rw [(jG hz).2, hcs] at hf;rw [hz, he];simp only [bo];rw [hf];exact ⟨H, by simp, h⟩
  ·cases hx
 case buildSlice t len parts =>
  have hp := fill parts fun x hx => hev x (by simpa [Op.operands] using hx);simp only [wn, dK];rw [hp];refine dx.bind fun el _ => dx.bind fun e _ => dx.bind fun z hz => dx.ite fun _ => ?_;intro v E' hx;obtain ⟨cs, hcs, hx⟩ := aG.1 hx;have hf := Dh (g := g) (d := d) (fun i => some (i * e, e)) (parts.toList.map fun p => (p.1, ev p.2)) (List.replicate len z.cells.toList).flatten
  rw [hcs, show gi g d (List.replicate len z.cells.toList).flatten = (List.replicate len z.cells.toList).flatten from by
   rw [gi, List.map_flatten, List.map_replicate, show List.map (bA g d) z.cells.toList = z.cells.toList from (jG hz).2]] at hf
  rw [hf];exact h.rowP _ _ _ v E' hx
 case load t a =>
  simp only [wn, dK];rw [hev a (by simp [Op.operands])];refine dx.bind fun n _ => ?_
  cases n with
  | none => exact dx.val h (h.ld1 _)
  | some n => exact dx.val h (h.ldN _ _)
 case store t a x =>
  simp only [wn, dK];rw [hev a (by simp [Op.operands]), hev x (by simp [Op.operands])];exact dx.bind fun n _ => dx.heap _ qZ (h.st _ _ _)
 case nilCheck x =>
  simp only [wn, dK];rw [hev x (by simp [Op.operands])];exact dx.val h (ajP _)
 case binOp op t x y z =>
  simp only [wn, dK];rw [hev x (by simp [Op.operands]), hev y (by simp [Op.operands])];exact dx.val h (ajJ _ _ _ _)
 case unOp op t x =>
  simp only [wn, dK];rw [hev x (by simp [Op.operands])];exact dx.val h (am6 _ _)
 case convert src dst x =>
  simp only [wn, dK];rw [hev x (by simp [Op.operands])]
  split
  ·rename_i hu; rw [hu]; exact dx.val h (afM _ _)
  ·exact dx.no
 case makeFunc fn first captured =>
  simp only [wn, dK];rw [arr first fun x hx => hev x (by simp only [Op.operands, Array.toList_append, List.mem_append]; exact .inl hx), arr captured fun x hx => hev x (by simp only [Op.operands, Array.toList_append, List.mem_append]; exact .inr hx)];intro v E' hx; cases hx; exact ⟨H, by simp, h⟩
 case makeMap t r =>
  cases r with
  | none =>
   intro v E' hx;simp only [wn] at hx;simp only [dK];obtain ⟨E1, h1, e⟩ := aN.1 hx;cases e;exact ⟨H.push (L6 g d (.map [] 0)), by simp [h.new, L6], h.push h1⟩
  | some r => exact dx.no
 case makeSlice t l k =>
  simp only [wn, dK];rw [hev l (by simp [Op.operands]), hev k (by simp [Op.operands])]
  exact dx.bind fun el _ => dx.bind fun e _ => dx.bind fun by' _ => dx.bind fun z hz => h.make (jG hz).2 _ _ _ _
 case slice t x lo hi mx =>
  have hx := hev x (by simp [Op.operands])
  have ho : ∀ (q : Option Operand), (∀ y ∈ q.toArray.toList, ev' y = (bA g d) (ev y)) → q.map ev' = (q.map ev).map (bA g d) := by
   intro q hq
   cases q with
   | none => rfl
   | some y => simp [hq y (by simp)]
  have hlo : lo.map ev' = (lo.map ev).map (bA g d) := ho lo fun y hy => hev y (by simp only [Op.operands, Array.toList_append, List.mem_append]; exact .inl (.inl (.inr hy)));have hhi : hi.map ev' = (hi.map ev).map (bA g d) := ho hi fun y hy => hev y (by simp only [Op.operands, Array.toList_append, List.mem_append]; exact .inl (.inr hy));have hmx : mx.map ev' = (mx.map ev).map (bA g d) := ho mx fun y hy => hev y (by simp only [Op.operands, Array.toList_append, List.mem_append]; exact .inr hy)
  cases mx with
  | none =>
   simp only [wn, dK];rw [hx, hlo, hhi];exact dx.bind fun el _ => dx.bind fun e _ => dx.val h (Yb _ _ _ _)
  | some mx =>
   cases lo with
   | some lo => cases hi <;> exact dx.no
   | none =>
    cases hi with
    | none => exact dx.no
    | some hi =>
     simp only [dP, Option.some.injEq] at hhi hmx;simp only [wn, dK];rw [hx, hhi, hmx];refine dx.bind fun el _ => dx.bind fun e _ => ?_;intro v E' hv;obtain ⟨z, hz, e⟩ := aN.1 hv;cases e;rw [PK hz];exact ⟨H, rfl, h⟩
 case fieldAddr st x f =>
  simp only [wn, dK];rw [hev x (by simp [Op.operands])];refine dx.bind fun f _ => dx.bind fun n _ => ?_
  split
  ·exact dx.no
  ·exact dx.val h (ajK _ _)
 case field st x f =>
  simp only [wn, dK];rw [hev x (by simp [Op.operands])];exact dx.bind fun f _ => dx.bind fun n _ => dx.val h (afP _ _ _)
 case indexAddr t x i =>
  simp only [wn, dK];rw [hev x (by simp [Op.operands]), hev i (by simp [Op.operands])]
  split
  ·rename_i hu; rw [hu]; exact dx.bind fun e _ => dx.val h (ajL _ _ _)
  ·rename_i hu; rw [hu]; exact dx.bind fun e _ => dx.val h (afO _ _ _ _)
  ·exact dx.no
 case index t x i =>
  simp only [wn, dK];rw [hev x (by simp [Op.operands]), hev i (by simp [Op.operands])]
  split
  ·rename_i hu; rw [hu]; exact dx.bind fun e _ => dx.bind fun n _ => dx.val h (PJ _ _ _ _ _)
  ·rename_i hu; rw [hu]; exact dx.val h (PI _ _)
  ·exact dx.no
 case lookup t m k ok =>
  simp only [wn, dK];rw [hev m (by simp [Op.operands]), hev k (by simp [Op.operands])];exact dx.bind fun kt _ => dx.bind fun fl _ => dx.bind fun z hz => dx.val h (h.lookup fl (jG hz).1 _ _ _)
 case mapUpdate t m k x =>
  simp only [wn, dK];rw [hev m (by simp [Op.operands]), hev k (by simp [Op.operands]), hev x (by simp [Op.operands])];exact dx.bind fun kt _ => dx.bind fun fl _ => dx.heap _ qZ (h.update _ _ _ _)
 case extract t i =>
  simp only [wn, dK];rw [hev t (by simp [Op.operands])];exact dx.val h (Lu _ _)
 case call k =>
  obtain ⟨callee, args, ats⟩ := k;have ha : args.toList.map ev' = gi g d (args.toList.map ev) := MO fun x hx => hev x (by simp only [Op.operands, Call.operands, Array.toList_append, List.mem_append]; exact .inr hx)
  cases callee with
  | builtin b =>
   simp only [wn, dK];rw [ha];exact Jn h _ _ _
  | value f =>
   simp only [wn, dK];rw [ha, hev f (by simp [Op.operands, Call.operands])];intro v E' hx;obtain ⟨q, hq, hx⟩ := aG.1 hx;rw [PH, hq];exact hc E H _ _ h v E' hx
  | invoke r m => exact dx.no
 all_goals exact dx.no
end
def tEv (T : Tr Value) : Operand → Value
 | .tmp t => match T.get t with
  | some v => v
  | none => undef
 | .const v => v
 | .global g => .pointer (some ⟨g, 0, none⟩)
 | .func f => .func (.func f) #[] #[]
def ajU (m : Nat) (T : Tr Value) (dst : Option Tmp) (v : Value) : Option (Tr Value) :=
 match dst with
 | some j => match Nat.blt j m with
  | true => Tr.set v 24 T j
  | false => none
 | none => some T
def PU (ops : Array Oper) (T : Tr Value) (j : Nat) : Option Bool :=
 match (ops[j]?).bind (·.dst) with
 | some t => match T.get t with
  | some (.bool b) => some b
  | _ => none
 | none => none
def Uc (P : Program) (G : List Nat) (call : TF) (ops : Array Oper) (m : Nat) (o : Oper) (T : Tr Value) (E : EH) : Option (Tr Value × EH) :=
 match o.op.operands.toList.all (L5 G) with
 | true => match Region.wanted o (PU ops T) with
  | true => (wn P call (tEv T) o E).bind fun r => (ajU m T o.dst r.1).map fun T' => (T', r.2)
  | false => (ajU m T o.dst undef).map fun T' => (T', E)
 | false => none
def PT (P : Program) (G : List Nat) (call : TF) (ops : Array Oper) (m : Nat) : List Oper → Tr Value → EH → List (Tr Value × EH) → Option (List (Tr Value × EH) × Tr Value × EH)
 | [], T, E, hist => some (hist ++ [(T, E)], T, E)
 | o :: rest, T, E, hist => (Uc P G call ops m o T E).bind fun r => PT P G call ops m rest r.1 r.2 (hist ++ [(T, E)])
def alB (P : Program) (G : List Nat) (hist : List (Tr Value × EH)) (ops : Array Oper) (p : Nat × Nat) : Bool :=
 match ops[p.1]?, hist[p.1]?, hist[if p.2 < p.1 then p.2 else p.2 + 1]? with
 | some o, some s, some s' => o.op.operands.toList.all (L5 G) && eqO (tRd P (tEv s.1) o.op s'.2) (tRd P (tEv s.1) o.op s.2)
 | _, _, _ => false
def Ai (P : Program) (G : List Nat) (call : TF) (ops : Array Oper) (m : Nat) (draw : Bool) (T : Tr Value) (E : EH) : Option (Tr Value × EH) :=
 match draw with
 | true => match s6 ops.toList with
  | true => (PT P G call ops m ops.toList T E []).bind fun r => match (db ops.toList).all (alB P G r.1 ops) with
   | true => some r.2
   | false => none
  | false => none
 | false => (PT P G call ops m ops.toList T E []).map (·.2)
abbrev TR := AE × Tr Value × EH
def Ub (f : Tr Value → EH → Option TR) : Nat → Tr Value → EH → Option TR
 | 0, _, _ => none
 | n + 1, T, E => (f T E).bind fun r => match r.1 with
  | .normal => Ub f n r.2.1 r.2.2
  | _ => some r
def i6 (P : Program) (G : List Nat) (call : TF) (N m : Nat) : Code → Tr Value → EH → Option TR
 | .skip, T, E => some (.normal, T, E)
 | .label _, T, E => some (.normal, T, E)
 | .region _ ops draw, T, E => (Ai P G call ops m draw T E).map fun s => (.normal, s.1, s.2)
 | .seq x y, T, E => (i6 P G call N m x T E).bind fun r => match r.1 with
  | .normal => i6 P G call N m y r.2.1 r.2.2
  | _ => some r
 | .cond c x y, T, E => match L5 G c with
  | true => match tEv T c with
   | .bool true => i6 P G call N m x T E
   | .bool false => i6 P G call N m y T E
   | _ => none
  | false => none
 | .block id x, T, E => (i6 P G call N m x T E).map fun r => match r.1 with
  | .exit i => if i = id then (.normal, r.2.1, r.2.2) else r
  | _ => r
 | .loop x, T, E => Ub (i6 P G call N m x) N T E
 | .exit id, T, E => some (.exit id, T, E)
 | .ret, T, E => some (.ret, T, E)
 | _, _, _ => none
def Dq (T : Tr Value) (t : Nat) : Value := match T.get t with
 | some v => v
 | none => undef
def wo (P : Program) (T : Tr Value) (E : EH) : ResultVar → Option Value
 | .tmp t => some (Dq T t)
 | .cell a t => (eD P t).bind fun g => match g with
  | some n => Zq n (Dq T a) E
  | none => Zp (Dq T a) E
def FT (P : Program) (T : Tr Value) (E : EH) : List ResultVar → Option (List Value)
 | [] => some []
 | r :: rs => (wo P T E r).bind fun v => (FT P T E rs).bind fun vs => some (v :: vs)
def af4 (P : Program) (rs : List ResultVar) (r : TR) : Option (Value × EH) :=
 match r.1 with
 | .exit _ => none
 | _ => (FT P r.2.1 r.2.2 rs).map fun vs => (match vs with
  | [v] => v
  | vs => .tuple vs.toArray, r.2.2)
def LB : List Value → Nat → Tr Value → Option (Tr Value)
 | [], _, T => some T
 | v :: vs, i, T => (Tr.set v 24 T i).bind fun T' => LB vs (i + 1) T'
def af3 (P : Program) (G : List Nat) (call : TF) (N n : Nat) (rs : List ResultVar) (s : DSh) (T : Tr Value) (E : EH) : Option (Value × EH) :=
 (i6 P G call N n s.c1 T E).bind fun r => match r.1 with
  | .normal => match Nat.blt s.t n with
   | true => (Uc P G call s.ops2 n s.om r.2.1 r.2.2).bind fun q => (PT P G call s.ops3 n s.ops3.toList q.1 q.2 []).bind fun z => af4 P rs (.normal, z.2.1, z.2.2)
   | false => none
  | _ => none
def FS (P : Program) (G D : List Nat) (N : Nat) : Nat → TF
 | 0 => fun _ _ _ => none
 | k + 1 => fun f args E => match P.funcs[f]? with
  | some fn => if fn.name = "runtime.NumGoroutine" then none else match fn.body with
   | some c => match Nat.ble args.length fn.ntmps with
    | true => (LB args 0 .lf).bind fun T => match j7 c with
     | none => (i6 P G (FS P G D N k) N fn.ntmps c T E).bind (af4 P fn.results.toList)
     | some s => match D.contains s.k with
      | true => af3 P G (FS P G D N k) N fn.ntmps fn.results.toList s T E
      | false => none
    | false => none
   | none => none
  | none => none
section
variable {P : Program} {G : List Nat} {g d m N : Nat} {F : List AObj}
structure ER (g d m : Nat) (T : Tr Value) (A : List Value) : Prop where
 len : A.length = m
 get : ∀ t, A[t]?.getD undef = bA g d (Dq T t)
theorem LA {v : Value} {T T' : Tr Value} {j : Nat} (h : Tr.set v 24 T j = some T') (t : Nat) : Dq T' t = if t = j then v else Dq T t := by
 unfold Dq;rw [Tr.get_set 24 h t]
 by_cases e : t = j
 ·rw [if_pos e, if_pos e]
 ·rw [if_neg e, if_neg e]
theorem ER.put {T T' : Tr Value} {A : List Value} (h : ER g d m T A) {dst : Option Tmp} {v : Value} (hp : ajU m T dst v = some T') : ER g d m T' (kE A dst ((bA g d) v)) := by
 unfold ajU at hp
 cases dst with
 | none => cases hp; exact h
 | some j =>
  simp only at hp
  split at hp
  ·rename_i hb
   have hj : j < m := Nat.le_of_ble_eq_true hb;refine ⟨by simp [kE, h.len], fun t => ?_⟩;rw [LA hp];simp only [kE];rw [List.getElem?_set]
   by_cases e : t = j
   ·rw [if_pos e, if_pos e.symm, if_pos (by rw [h.len]; omega)]; rfl
   ·rw [if_neg e, if_neg (fun x => e x.symm)]; exact h.get t
  ·cases hp
theorem ER.ev {T : Tr Value} {A : List Value} (h : ER g d m T A) (hG : ∀ b ∈ G, b < g) {x : Operand} (hx : L5 G x = true) : eF A x = (bA g d) (tEv T x) := by
 cases x with
 | tmp t => exact h.get t
 | const v => exact (Lt hx).symm
 | global b =>
  simp only [L5, List.contains_iff_mem] at hx;simp [eF, tEv, yI, zD, hG b hx]
 | func f => simp [eF, tEv]
theorem ER.yield {T : Tr Value} {A : List Value} (h : ER g d m T A) (ops : Array Oper) : cV ops A = PU ops T := by
 funext j
 unfold cV PU
 cases (ops[j]?).bind (·.dst) with
 | none => rfl
 | some t =>
  simp only [bo];have hg := h.get t;unfold Dq at hg
  cases hT : T.get t with
  | none =>
   rw [hT] at hg;simp only [qZ] at hg
   cases hA : A[t]? with
   | none => rfl
   | some v => rw [hA] at hg; simp only [Option.getD_some] at hg; subst hg; rfl
  | some v =>
   rw [hT] at hg;simp only at hg
   cases hA : A[t]? with
   | none => rw [hA] at hg; simp only [Option.getD_none] at hg; cases v <;> simp [undef] at hg ⊢
   | some w => rw [hA] at hg; simp only [Option.getD_some] at hg; subst hg; cases v <;> simp
structure St (g d m : Nat) (F : List AObj) (x : Tr Value × EH) (y : List Value × AH) : Prop where
 er : ER g d m x.1 y.1
 hr : HR g d F x.2 y.2
theorem Lx {c : TF} {c' : bg} (hG : ∀ b ∈ G, b < g) (hc : rk g d F c c') {ops : Array Oper} {o : Oper} {T : Tr Value} {E : EH} {A : List Value} {H : AH} {r} (hS : St g d m F (T, E) (A, H)) (h : Uc P G c ops m o T E = some r) :
 ∃ r', fI P G c' ops o A H = some r' ∧ St g d m F r r' := by
 unfold Uc at h;unfold fI
 split at h
 ·rename_i hok
  rw [if_pos hok];have hev : ∀ x, x ∈ o.op.operands.toList → eF A x = (bA g d) (tEv T x) := fun x hx => hS.er.ev hG (List.all_eq_true.1 hok x hx);rw [hS.er.yield]
  split at h
  ·rename_i hw
   rw [if_pos hw];obtain ⟨⟨v, E1⟩, h1, h⟩ := aG.1 h;obtain ⟨T', h2, e⟩ := aN.1 h;cases e;obtain ⟨H', h3, h4⟩ := amE hS.hr hc hev v E1 h1;rw [h3];exact ⟨_, rfl, hS.er.put h2, h4⟩
  ·rename_i hw
   rw [if_neg (by rw [hw]; simp)];obtain ⟨T', h2, e⟩ := aN.1 h;cases e;refine ⟨_, rfl, ?_, hS.hr⟩;have := hS.er.put h2
   rwa [qZ] at this
 ·cases h
theorem HT {c : TF} {c' : bg} (hG : ∀ b ∈ G, b < g) (hc : rk g d F c c') {ops : Array Oper} : ∀ (l : List Oper) {T : Tr Value} {E : EH} {A : List Value} {H : AH} {hist r}, St g d m F (T, E) (A, H) → PT P G c ops m l T E hist = some r →
 (∃ r', cG P G c' ops l A H = some r' ∧ St g d m F r.2 r') ∧ ∃ t, r.1 = hist ++ t ∧ t.length = l.length + 1 ∧ ∀ i, i ≤ l.length → ∃ x y, t[i]? = some x ∧ cG P G c' ops (l.take i) A H = some y ∧ St g d m F x y := by
 intro l
 induction l with
 | nil =>
  intro T E A H hist r hS h;simp only [PT] at h; cases h;refine ⟨⟨_, rfl, hS⟩, [(T, E)], rfl, rfl, ?_⟩;intro i hi
  have : i = 0 := by simpa using hi
  subst this;exact ⟨_, _, rfl, rfl, hS⟩
 | cons o l ih =>
  intro T E A H hist r hS h;simp only [PT] at h;obtain ⟨q, hq, h⟩ := aG.1 h;obtain ⟨⟨A1, H1⟩, h1, hS1⟩ := Lx hG hc hS hq;obtain ⟨T1, E1⟩ := q;obtain ⟨⟨r', h2, hS2⟩, t, e, hl, ht⟩ := ih hS1 h;refine ⟨⟨r', by simp only [cG, h1, bo]; exact h2, hS2⟩, (T, E) :: t, by rw [e]; simp, by simp [hl], ?_⟩;intro i hi
  cases i with
  | zero => exact ⟨_, _, rfl, rfl, hS⟩
  | succ i =>
   obtain ⟨x, y, hx, hy, hxy⟩ := ht i (by simpa using hi);exact ⟨x, y, by simpa using hx, by simp only [List.take_succ_cons, cG, h1, bo]; exact hy, hxy⟩
theorem O8 {c : TF} {c' : bg} (hG : ∀ b ∈ G, b < g) (hc : rk g d F c c') {ops : Array Oper} {draw : Bool} {T : Tr Value} {E : EH} {A : List Value} {H : AH} {r} (hS : St g d m F (T, E) (A, H)) (h : Ai P G c ops m draw T E = some r) :
 ∃ r', ft P G c' ops draw A H = some r' ∧ St g d m F r r' := by
 cases draw with
 | false =>
  simp only [Ai, ft] at h ⊢;obtain ⟨q, hq, e⟩ := aN.1 h;subst e;exact (HT hG hc _ hS hq).1
 | true =>
  simp only [Ai, ft] at h ⊢
  split at h
  ·rename_i hreg
   obtain ⟨q, hq, h⟩ := aG.1 h
   split at h
   ·rename_i hall
    cases h;obtain ⟨⟨r', h1, h2⟩, t, e, hl, ht⟩ := HT hG hc _ hS hq;refine ⟨r', ?_, h2⟩;unfold l8;rw [hreg];simp only
    cases hp : db ops.toList with
    | nil => exact h1
    | cons p ps =>
     simp only;rw [jU ?_]
     ·exact h1
     ·rw [← hp]
      intro p hpm o ho;have hx := List.all_eq_true.1 hall p hpm;unfold alB at hx;rw [ho] at hx;simp only [List.nil_append] at e
      have st : ∀ i x, q.1[i]? = some x → St g d m F x (jd P G c' ops A H i) := by
       intro i x hs
       have hi : i < t.length := by rw [e] at hs; exact (qw.1 hs).1
       obtain ⟨x', y, hx', hy, hxy⟩ := ht i (by omega);rw [e, hx'] at hs;cases hs;unfold jd;rw [hy];exact hxy
      split at hx
      ·rename_i o' x1 x2 ho' hs hs'
       cases ho';simp only [Bool.and_eq_true] at hx;have hev : ∀ x, x ∈ o.op.operands.toList → eF (jd P G c' ops A H p.1).1 x = (bA g d) (tEv x1.1 x) := fun x hxm => (st _ _ hs).er.ev hG (List.all_eq_true.1 hx.1 x hxm);rw [ak6 (st _ _ hs').hr hev, ak6 (st _ _ hs).hr hev, U2 hx.2]
      ·cases hx
   ·cases h
  ·cases h
structure Ar (g d m : Nat) (F : List AObj) (x : TR) (y : AR) : Prop where
 e : x.1 = y.1
 st : St g d m F x.2 y.2
theorem Js {c : TF} {c' : bg} (hG : ∀ b ∈ G, b < g) (hc : rk g d F c c') : ∀ (k : Code) {T : Tr Value} {E : EH} {A : List Value} {H : AH} {r : TR}, St g d m F (T, E) (A, H) → i6 P G c N m k T E = some r →
 ∃ r', aK P G c' k A H = some r' ∧ Ar g d m F r r' := by
 intro k
 induction k with
 | region id ops draw =>
  intro T E A H r hS hr;simp only [i6, aK] at hr ⊢;obtain ⟨q, hq, e⟩ := aN.1 hr;obtain ⟨r', h1, h2⟩ := O8 hG hc hS hq;subst e;rw [h1];exact ⟨_, rfl, rfl, h2⟩
 | seq x y ihx ihy =>
  intro T E A H r hS hr;simp only [i6, aK] at hr ⊢;obtain ⟨⟨e, T1, E1⟩, hx, hr⟩ := aG.1 hr;obtain ⟨⟨e', A1, H1⟩, h1, h2⟩ := ihx hS hx;have he : e = e' := h2.e;subst he;rw [h1];simp only [bo]
  cases e with
  | normal => exact ihy h2.st hr
  | exit i => cases hr; exact ⟨_, rfl, h2⟩
  | ret => cases hr; exact ⟨_, rfl, h2⟩
 | cond b x y ihx ihy =>
  intro T E A H r hS hr;simp only [i6, aK] at hr ⊢
  split at hr
  ·rename_i hok
   rw [hS.er.ev hG hok]
   split at hr
   ·rename_i e; rw [e]; simp only [T6]; exact ihx hS hr
   ·rename_i e; rw [e]; simp only [T6]; exact ihy hS hr
   ·cases hr
  ·cases hr
 | block id x ih =>
  intro T E A H r hS hr;simp only [i6, aK] at hr ⊢;obtain ⟨⟨e, T1, E1⟩, hx, hr⟩ := aN.1 hr;obtain ⟨⟨e', A1, H1⟩, h1, h2⟩ := ih hS hx;have he : e = e' := h2.e;subst he;rw [h1];subst hr
  cases e with
  | normal => exact ⟨_, rfl, h2⟩
  | exit i =>
   simp only [dP]
   by_cases hi : i = id
   ·rw [if_pos hi, if_pos hi]; exact ⟨_, rfl, rfl, h2.st⟩
   ·rw [if_neg hi, if_neg hi]; exact ⟨_, rfl, h2⟩
  | ret => exact ⟨_, rfl, h2⟩
 | loop x ih =>
  intro T E A H r hS hr;simp only [i6, aK] at hr ⊢
  suffices key : ∀ n T E A H, St g d m F (T, E) (A, H) → Ub (i6 P G c N m x) n T E = some r → ∃ r', dU (aK P G c' x) n A H = some r' ∧ Ar g d m F r r' from by
   obtain ⟨r', h1, h2⟩ := key N T E A H hS hr;exact ⟨r', cF.2 ⟨N, h1⟩, h2⟩
  clear hr hS
  intro n
  induction n with
  | zero => intro T E A H hS hr; cases hr
  | succ n ihn =>
   intro T E A H hS hr;simp only [Ub, dU] at hr ⊢;obtain ⟨⟨e, T1, E1⟩, hx, hr⟩ := aG.1 hr;obtain ⟨⟨e', A1, H1⟩, h1, h2⟩ := ih hS hx;have he : e = e' := h2.e;subst he;rw [h1];simp only [bo]
   cases e with
   | normal => exact ihn _ _ _ _ h2.st hr
   | exit i => cases hr; exact ⟨_, rfl, h2⟩
   | ret => cases hr; exact ⟨_, rfl, h2⟩
 | skip => intro T E A H r hS hr; simp only [i6] at hr; cases hr; exact ⟨_, rfl, rfl, hS⟩
 | label l => intro T E A H r hS hr; simp only [i6] at hr; cases hr; exact ⟨_, rfl, rfl, hS⟩
 | exit i => intro T E A H r hS hr; simp only [i6] at hr; cases hr; exact ⟨_, rfl, rfl, hS⟩
 | ret => intro T E A H r hS hr; simp only [i6] at hr; cases hr; exact ⟨_, rfl, rfl, hS⟩
 | _ => intro T E A H r hS hr; cases hr
theorem Pb {T : Tr Value} {E : EH} {A : List Value} {H : AH} (hS : St g d m F (T, E) (A, H)) (r : ResultVar) : kF P A H r = (wo P T E r).map (bA g d) := by
 cases r with
 | tmp t => simp only [kF, wo, dP]; rw [hS.er.get t]
 | cell a t =>
  simp only [kF, wo];rw [hS.er.get a]
  cases eD P t with
  | none => rfl
  | some n => cases n with
   | none => exact hS.hr.ld1 _
   | some n => exact hS.hr.ldN _ _
theorem ac5 {T : Tr Value} {E : EH} {A : List Value} {H : AH} (hS : St g d m F (T, E) (A, H)) : ∀ rs : List ResultVar, sD P A H rs = (FT P T E rs).map (gi g d) := by
 intro rs
 induction rs with
 | nil => rfl
 | cons r rs ih =>
  simp only [sD, FT];rw [Pb hS, ih]
  cases wo P T E r with
  | none => rfl
  | some v => cases FT P T E rs <;> rfl
theorem SB {rs : List ResultVar} {x : TR} {y : AR} (h : Ar g d m F x y) : dx g d F (af4 P rs x) (YU P rs y) := by
 intro v E' hx;obtain ⟨e, T, E⟩ := x;obtain ⟨e', A, H⟩ := y;have he : e = e' := h.e;subst he;have hS := h.st;have hm := ac5 (P := P) hS rs
 have key : ∀ vs, FT P T E rs = some vs → iB P A H rs = some ((bA g d) (match vs with | [v] => v | vs => .tuple vs.toArray)) := by
  intro vs hvs;unfold iB;rw [hm, hvs];simp only [dP]
  congr 1
  match vs with
  | [] => simp [gi]
  | [v] => rfl
  | v :: w :: vs => simp [gi]
 cases e with
 | exit i => cases hx
 | normal =>
  simp only [af4, YU] at hx ⊢;obtain ⟨vs, hvs, e⟩ := aN.1 hx;cases e;rw [key vs hvs];exact ⟨H, rfl, hS.hr⟩
 | ret =>
  simp only [af4, YU] at hx ⊢;obtain ⟨vs, hvs, e⟩ := aN.1 hx;cases e;rw [key vs hvs];exact ⟨H, rfl, hS.hr⟩
theorem acR : ∀ (vs : List Value) (i : Nat) (T : Tr Value) {T' : Tr Value}, LB vs i T = some T' → ∀ t, Dq T' t = if i ≤ t ∧ t < i + vs.length then (vs[t - i]?).getD undef else Dq T t := by
 intro vs
 induction vs with
 | nil => intro i T T' h t; simp only [LB] at h; cases h; rw [if_neg (by simp only [List.length_nil]; omega)]
 | cons v vs ih =>
  intro i T T' h t;simp only [LB] at h;obtain ⟨T1, h1, h⟩ := aG.1 h;rw [ih _ _ h t, LA h1]
  by_cases e1 : i + 1 ≤ t ∧ t < i + 1 + vs.length
  ·rw [if_pos e1, if_pos (by simp; omega)]
   rw [show t - i = (t - (i + 1)) + 1 from by omega, List.getElem?_cons_succ]
  ·rw [if_neg e1]
   by_cases e2 : t = i
   ·subst e2; rw [if_pos rfl, if_pos (by simp)]; simp
   ·rw [if_neg e2, if_neg (by simp; omega)]
theorem Zd {D : List Nat} (hG : ∀ b ∈ G, b < g) (hD : ∀ k ∈ D, ug P k) : ∀ k, rk g d F (FS P G D N k) (eC P G k) := by
 intro k
 induction k with
 | zero => intro E H f args hR v E' h; cases h
 | succ k ih =>
  intro E H f args hR v E' h;rw [FS] at h;rw [eC];simp only [] at h ⊢
  cases hf : P.funcs[f]? with
  | none => rw [hf] at h; cases h
  | some fn =>
   rw [hf] at h;simp only at h ⊢
   split at h
   ·cases h
   ·rename_i hn
    rw [if_neg hn]
    cases hb : fn.body with
    | none => rw [hb] at h; cases h
    | some c =>
     rw [hb] at h;simp only at h ⊢
     split at h
     ·rename_i hle
      have hle := Nat.le_of_ble_eq_true hle;obtain ⟨T, hT, h⟩ := aG.1 h
      have hS : St g d fn.ntmps F (T, E) (gi g d args ++ List.replicate (fn.ntmps - (gi g d args).length) undef, H) := by
       refine ⟨⟨by simp; omega, fun t => ?_⟩, hR⟩;rw [acR _ _ _ hT];simp only [gi, List.getElem?_append, pJ, tA, List.getElem?_replicate]
       by_cases e : t < args.length
       ·rw [if_pos (show 0 ≤ t ∧ t < 0 + args.length from by omega), if_pos e]
        simp [br e]
       ·rw [if_neg (show ¬ (0 ≤ t ∧ t < 0 + args.length) from by omega), if_neg e]
        have : Dq .lf t = undef := rfl;rw [this, qZ]
        split <;> rfl
      cases hd : j7 c with
      | none =>
       rw [hd] at h;obtain ⟨r, hr, h⟩ := aG.1 h;obtain ⟨r', h1, h2⟩ := Js hG ih c hS hr;simp only;unfold o6;rw [h1];exact SB h2 v E' h
      | some q =>
       rw [hd] at h;simp only at h ⊢
       split at h
       ·rename_i hin
        rw [jU (hD _ (by simpa using hin))];unfold af3 at h;unfold n7;obtain ⟨⟨e1, T1, E1⟩, hr, h⟩ := aG.1 h;obtain ⟨⟨e2, A1, H1⟩, h1, h2⟩ := Js hG ih q.c1 hS hr;have he : e1 = e2 := h2.e;subst he;rw [h1];simp only [bo]
        cases e1 with
        | exit i => cases h
        | ret => cases h
        | normal =>
         simp only at h ⊢
         split at h
         ·rename_i hlt
          have hlt : q.t < fn.ntmps := Nat.le_of_ble_eq_true hlt;have hlen : A1.length = fn.ntmps := h2.st.er.len;rw [if_neg (by omega)];obtain ⟨⟨T2, E2⟩, h3, h⟩ := aG.1 h;obtain ⟨⟨A2, H2⟩, h4, h5⟩ := Lx hG ih h2.st h3;obtain ⟨z, h6, h⟩ := aG.1 h;obtain ⟨⟨⟨A3, H3⟩, h7, h8⟩, _⟩ := HT hG ih _ h5 h6;rw [h4];simp only [bo];rw [h7];exact SB (x := (.normal, z.2.1, z.2.2)) (y := (.normal, A3, H3)) ⟨rfl, h8⟩ v E' h
         ·cases h
       ·cases h
     ·cases h
end
def adS (tab : List Value) : Option (Value × EH) → Bool
 | some (.bool true, E) => match E.get 0 with
  | some (.cells true cs) => DX (eqV 0) cs tab
  | _ => false
 | _ => false
def LC (tab : List Value) : EH := ⟨1, .nd (some (.cells true tab)) .lf .lf⟩
theorem Mv {P : Program} {D : List Nat} {N k f : Nat} {tab : List Value} (hD : ∀ k ∈ D, ug P k) (hl : tab.all cJ = true) (h : adS tab (FS P [0] D N k f [] (LC tab)) = true)
 {H : AH} (hH : H.get 0 = some (.cells true tab)) : ∃ H', aF P [0] f [] H = some (.bool true, H') ∧ H.size ≤ H'.size ∧ ∀ i, i < H.size → H'.get i = H.get i := by
 obtain ⟨objs⟩ := H
 cases objs with
 | nil => cases hH
 | cons o F =>
  have ho : o = .cells true tab := by simpa [AH.get] using hH
  subst ho
  have hR : HR 1 F.length F (LC tab) ⟨.cells true tab :: F⟩ := by
   refine ⟨rfl, bj _, by simp [AH.size, LC, Nat.add_comm], fun b => ?_, fun b hb => ?_, fun b h1 h2 => ?_⟩
   ·cases b with
    | zero =>
     have : zD 1 F.length 0 = 0 := rfl;rw [this];show some _ = some (AObj.cells true (gi 1 F.length tab));rw [wg hl]
    | succ b =>
     have e : zD 1 F.length (b + 1) = b + 1 + F.length := by simp [zD]
     have e2 : (LC tab).get (b + 1) = none := by
      simp only [EH.get, LC, Tr.get]; split <;> rfl
     rw [e, e2];exact AH.get_none (by simp [AH.size]; omega)
   ·have : 1 ≤ b := hb
    obtain ⟨b, rfl⟩ : ∃ c, b = c + 1 := ⟨b - 1, by omega⟩
    simp only [EH.get, LC, Tr.get]; split <;> rfl
   ·obtain ⟨b, rfl⟩ : ∃ c, b = c + 1 := ⟨b - 1, by omega⟩
    simp [AH.get]
  unfold adS at h
  split at h
  ·rename_i E' hE
   obtain ⟨H', h1, h2⟩ := Zd (F := F) (N := N) (P := P) (by simp) hD k (LC tab) _ f [] hR _ _ hE;refine ⟨H', ?_, ?_, fun i hi => ?_⟩
   ·have := Qf k _ _ _ _ h1
    simpa using this
   ·rw [h2.size]
    have := h2.le;simp [AH.size]; omega
   ·split at h
    ·rename_i cs hcs
     have he : cs = tab := Bd (Ez 0) _ _ h;subst he
     cases i with
     | zero =>
      have := h2.get 0;rw [show zD 1 F.length 0 = 0 from rfl, hcs] at this;rw [this];show some (AObj.cells true (gi 1 F.length cs)) = _;rw [wg hl]; rfl
     | succ i =>
      have hi : i < F.length := by simpa [AH.size] using hi
      rw [h2.fr (i + 1) (by omega) (by omega)];simp [AH.get]
    ·cases h
  ·cases h
section
variable {P : Program} {w : World} {ev : Operand → Value} {d : Option Tmp} {x : Operand} {v a b : Value} {y : TypeId} {p : String} {e : Array Edge} {gd : Option (Nat × Bool)}
end
def tabC : List Value := [0,1,56,2,57,49,28,3,61,58,42,50,38,29,17,4,62,47,59,36,45,43,51,22,53,39,33,30,24,18,12,5,63,55,48,27,60,41,37,16,46,35,44,21,52,32,23,11,54,26,40,15,34,20,31,10,25,14,19,9,13,8,7,6].map fun n => .int .u8 n
theorem UH : adS tabC (FS Tryz.prog [0] [] 100000 60 25 [] (LC tabC)) = true := by decide +kernel
theorem ac.keeps {P : SP} {H H' : AH} (h : ac P H) (k : ∀ i, i < H.size → H'.get i = H.get i) : ac P H' := by
 obtain ⟨x, hx, hg⟩ := h
 exact ⟨x, hx, fun i o hi => by
  have := hg i o hi
  rw [k i (AH.lt_of_get this)]; exact this⟩
theorem YY {H0 : AH} (hT : H0.get 0 = some (.cells true tabC)) : Hs (WB H0) 0 (.cells true tabC) := ⟨fun h => (Fx.refl H0).fx h 0 _ hT⟩
theorem UF {H0 : AH} {v : Value} {l : List Int} (h : Abs H0 (.slice (.int .i64)) l [v]) : Rd (WB H0) v 1 dO l :=
 Rd.arg (t := .int .i64) (enc := dO) (E := inferInstanceAs (Enc dO 1)) (fun x c h => h.1) h
abbrev ITy : Ty := .int .i64
abbrev CfgTy : Ty := .pair ITy (.pair ITy (.pair ITy (.pair ITy (.pair (.int .u64) .unit))))
abbrev ClTy : Ty := .pair ITy (.pair ITy (.pair ITy (.pair ITy .unit)))
def af6 (x : ClTy.I) : Cl := ⟨x.1, x.2.1, x.2.2.1, x.2.2.2.1⟩
theorem alT {H : AH} {x : ClTy.I} {cs : List Value} (h : Abs H ClTy x cs) : cs = Cl.cells (af6 x) := by
 obtain ⟨c1, c2, rfl, h1, c3, c4, rfl, h2, c5, c6, rfl, h3, c7, c8, rfl, h4, h5⟩ := h;have h5 : c8 = [] := h5;rw [h1.1, h2.1, h3.1, h4.1, h5]
 rfl
theorem ahL {H : AH} {x : CfgTy.I} {cs : List Value} (h : Abs H CfgTy x cs) : ∃ c : gf, cs = gf.cells c := by
 obtain ⟨c1, c2, rfl, h1, c3, c4, rfl, h2, c5, c6, rfl, h3, c7, c8, rfl, h4, c9, c10, rfl, h5, h6⟩ := h;have h6 : c10 = [] := h6;obtain ⟨e5, hw⟩ := h5
 have : 0 ≤ x.2.2.2.2.1 ∧ x.2.2.2.2.1 ≤ 18446744073709551615 := by simpa [Lit.wf, IntKind.has, IntKind.min, IntKind.max, IntKind.bits, IntKind.signed] using hw
 refine ⟨⟨x.1, x.2.1, x.2.2.1, x.2.2.2.1, x.2.2.2.2.1.toNat⟩, ?_⟩;rw [h1.1, h2.1, h3.1, h4.1, e5, h6];show _ = [vi x.1, vi x.2.1, vi x.2.2.1, vi x.2.2.2.1, .int .u64 ((x.2.2.2.2.1.toNat : Nat) : Int)];rw [Int.toNat_of_nonneg this.1]
 rfl
theorem Mg {H0 : AH} {v : Value} {l : List ClTy.I} (h : Abs H0 (.slice ClTy) l [v]) : Rd (WB H0) v 4 Cl.cells (l.map af6) := by
 have E : Enc (fun x : ClTy.I => Cl.cells (af6 x)) ClTy.w := ⟨fun _ => rfl, fun _ => rfl, by decide⟩;have r := Rd.arg (t := ClTy) (enc := fun x => Cl.cells (af6 x)) (E := E) (fun x c hx => alT hx) h;refine ⟨fun {H} hh => ?_⟩;have := r.rd hh;rw [List.flatMap_map, pJ];exact this
structure New (σ : az) (k : Nat) : Prop where
 si : SI σ k
 js : ∀ l, l.1 ≠ 10 → σ.μ.V l = 0
theorem xZ {flow : Int} {obj : Nat} (h : obj < 4294967296) : dJ flow obj % 4294967296 = obj := by
 unfold dJ;omega
theorem New.lay {σ : az} {k : Nat} (h : New σ k) (ho : σ.obs.length < 90) (f w most : Int) (hf : 0 ≤ f ∧ f < 1000) : New (σ.lay f w most) (k + 4) := by
 obtain ⟨⟨c, N, E, pts, V, obs, cells, slot, head⟩, js⟩ := h;obtain ⟨q1, q2, q3⟩ := rT most
 have hsl : dJ f σ.obs.length < 18446744073709551616 := by unfold dJ; omega
 have hlen : (σ.lay f w most).obs.length = σ.obs.length + 1 := by simp [az.lay, az.make]
 refine ⟨⟨c, by simp [az.lay, az.make]; omega, by simp [az.lay, az.make]; omega, by simp [az.lay, az.make]; omega, fun l => ?_, by rw [hlen]; omega, fun o ho2 => ?_, fun s i => ?_, fun o => ?_⟩, fun l hl => ?_⟩
 ·show (if l = (10, f.tmod σ.c.sh, f.tdiv σ.c.sh) then dJ f σ.obs.length else σ.μ.V l) < _
  split
  ·exact hsl
  ·exact V l
 ·rw [hlen] at ho2
  unfold am;show 1 ≤ ((((σ.obs ++ [_])[o]?).map _).getD []).length ∧ ((((σ.obs ++ [_])[o]?).map _).getD []).length < 1000
  by_cases e : o < σ.obs.length
  ·rw [List.getElem?_append_left e]
   exact cells o e
  ·rw [show o = σ.obs.length from by omega, List.getElem?_append_right (bj _), Nat.sub_self]
   show 1 ≤ (List.replicate (eH most) OH).length ∧ (List.replicate (eH most) OH).length < 1000;rw [List.length_replicate];omega
 ·rw [hlen]
  show (if (10, s, i) = ((10 : Int), f.tmod σ.c.sh, f.tdiv σ.c.sh) then dJ f σ.obs.length else σ.μ.V (10, s, i)) ≠ 0 → (if (10, s, i) = ((10 : Int), f.tmod σ.c.sh, f.tdiv σ.c.sh) then dJ f σ.obs.length else σ.μ.V (10, s, i)) % 4294967296 < _
  split
  ·intro _
   rw [xZ (by omega)];omega
  ·intro hv
   have := slot s i hv;omega
 ·show (if ((12 : Int), (o : Int), (0 : Int)) = (10, f.tmod σ.c.sh, f.tdiv σ.c.sh) then dJ f σ.obs.length else σ.μ.V (12, o, 0)) ≤ _
  rw [if_neg (by simp)];have := head o;omega
 ·show (if l = (10, f.tmod σ.c.sh, f.tdiv σ.c.sh) then dJ f σ.obs.length else σ.μ.V l) = 0
  rw [if_neg (fun e => hl (by rw [e]))];exact js l hl
theorem ac3 (c : gf) (hc : ci c = true) : ∀ n, n ≤ 16 → New (az.made c n) (4 * n) := by
 intro n
 induction n with
 | zero =>
  intro _;exact ⟨⟨hc, bj _, bj _, bj _, fun _ => (by show (0 : Nat) < _; omega), (by show (0 : Nat) ≤ _; omega), fun o ho => (by cases ho), fun s i h => absurd rfl h, fun o => bj _⟩, fun _ _ => rfl⟩
 | succ n ih =>
  intro hn;have h := ih (by omega);have hm := (xf c n).2.2;unfold az.made
  split
  ·exact h.lay (by omega) _ _ _ (by omega)
  ·exact ⟨h.si.mono (by omega), h.js⟩
theorem SI.clear {σ : az} {k : Nat} (h : SI σ k) (s i : Int) : SI (σ.mem (σ.μ.put (10, s, i) 0)) k := by
 refine ⟨h.c, h.N, h.E, h.pts, fun x => ?_, h.obs, h.cells, fun s' i' => ?_, fun o => ?_⟩
 ·show (if x = (10, s, i) then 0 else σ.μ.V x) < _
  split
  ·omega
  ·exact h.V x
 ·show (if ((10 : Int), s', i') = (10, s, i) then 0 else σ.μ.V (10, s', i')) ≠ 0 → (if ((10 : Int), s', i') = (10, s, i) then 0 else σ.μ.V (10, s', i')) % _ < _
  split
  ·intro h; exact absurd rfl h
  ·exact h.slot s' i'
 ·show (if ((12 : Int), (o : Int), (0 : Int)) = (10, s, i) then 0 else σ.μ.V (12, o, 0)) ≤ _
  rw [if_neg (by simp)];exact h.head o
theorem anA {α : Type} {P : SP} {H : AH} {s : Value} {enc : α → List Value} {l : List α} {i : Nat} {kk : IntKind} {v : Value} {Q : Value → AH → Prop} {k : Value → OV} (h : ac P H) [r : Rd P s 1 enc l] [E : Enc enc 1] (hi : i < l.length) (hv : enc l[i] = [v])
 (hk : ∀ a : Value, (∀ {P' : SP} {H' : AH}, ac P' H' → [Rd P' s 1 enc l] → au a H' = some v) → wp (k a) Q) : wp (ad [.i 1 (.int kk (i : Int))] s k) Q := by
 obtain ⟨b, o, ro, row, rfl, h2, h3, h4⟩ := C2 (s := s) (enc := enc) (l := l) h hi;rw [UB hi];refine hk (pP b (o + i * 1)) fun {P' H'} h' _ => ?_;obtain ⟨b', o', ro', row', e', h2', h3', h4'⟩ := C2 (s := .slice (some ⟨b, o, none⟩) l.length 1) (enc := enc) (l := l) h' hi
 obtain ⟨rfl, rfl⟩ : b = b' ∧ o = o' := by simpa using e'
 have c := TA (enc := enc) (l := l) (g := 0) h4' hi (by omega);rw [hv] at c;simp only [au, tN, dq, bo, h2'];exact c
section
variable (p x : Nat) (rp : List Nat) (σ : az) (K : Nat)
theorem PZ {P : SP} {H : AH} {Q : Value → AH → Prop} {k : Value × AH → OV} {a b : Int} (h : ac P H) (h0 : 0 < b) (h1 : b < 9223372036854775808) (hk : ∀ H', ac P H' → wp (k (vi (dY a b), H')) Q) : wp ((FF bn [vi a, vi b] H).bind k) Q := by
 refine ag h (cy a b h0 h1) fun _ H1 h2 => ?_;exact hk H1 h2.to
end
theorem SI.make {σ : az} {k : Nat} (h : SI σ k) (who : Int) (o : Ob) : SI (σ.make who o) (k + 3) := by
 obtain ⟨c, N, E, pts, V, obs, cells, slot, head⟩ := h;obtain ⟨q1, q2, q3⟩ := rT o.most
 have hlen : (σ.make who o).obs.length = σ.obs.length + 1 := by simp [az.make]
 refine ⟨c, by simp [az.make]; omega, by simp [az.make]; omega, by simp [az.make]; omega, V, by rw [hlen]; omega, fun o' ho2 => ?_, fun s i hv => ?_, fun o' => ?_⟩
 ·rw [hlen] at ho2
  unfold am;show 1 ≤ ((((σ.obs ++ [_])[o']?).map _).getD []).length ∧ ((((σ.obs ++ [_])[o']?).map _).getD []).length < 1000
  by_cases e : o' < σ.obs.length
  ·rw [List.getElem?_append_left e]
   exact cells o' e
  ·rw [show o' = σ.obs.length from by omega, List.getElem?_append_right (bj _), Nat.sub_self]
   show 1 ≤ (List.replicate (eH o.most) OH).length ∧ (List.replicate (eH o.most) OH).length < 1000;rw [List.length_replicate];omega
 ·rw [hlen]
  have := slot s i hv;show σ.μ.V (10, s, i) % 4294967296 < _;omega
 ·have := head o'
  show σ.μ.V (12, o', 0) ≤ _;omega
structure KeptR (σ : az) (t : Tk) (r : az × Tk × Bool) (k : Nat) : Prop where
 si : SI r.1 (k + 3)
 c : r.1.c = σ.c
 obs : σ.obs.length ≤ r.1.obs.length
 ok : r.2.2 = false → ROk r.1 r.2.1
 x : r.2.1.x = t.x
 who : r.2.1.who = t.who
section
variable {σ : az} {t : Tk} {k : Nat}
end
theorem ROk.new {σ : az} (hc : ci σ.c = true) (who : Int) (x : Cl) : ROk σ (Tk.newR σ.c who x) := by
 have := bV.1 hc;exact ⟨rfl, fun _ => by simp; omega, by simp, .inl rfl, by simp, by simp, by simp⟩
theorem ROk.mono {σ σ' : az} {t : Tk} (T : ROk σ t) (hc : σ'.c = σ.c) (ho : σ.obs.length ≤ σ'.obs.length) : ROk σ' t :=
 ⟨by rw [hc]; exact T.s, by rw [hc]; exact T.i, T.x, T.ats, T.mark, fun h => Nat.lt_of_lt_of_le (T.obj h) ho, T.w⟩
theorem fe.mono' {σ σ' : az} {t : Tk} (T : fe σ t) (hc : σ'.c = σ.c) (ho : σ.obs.length ≤ σ'.obs.length) : fe σ' t :=
 ⟨fun h => Nat.lt_of_lt_of_le (T.obj h) ho, by rw [hc]; exact T.s, by rw [hc]; exact T.i, T.w, T.c5, T.c0, T.ats⟩
theorem Yd (σ : az) (t : Tk) (now : Int) : (ai σ t now).1.obs.length = σ.obs.length := by
 unfold ai;dsimp only
 repeat' split
 all_goals first | rfl | exact iH σ t
def afW (σ : az) (t : Tk) (now : Int) : az × Tk × Bool := if t.x.op = 3 then ai σ t now else aoP σ t now
structure AOk (σ : az) (t : Tk) : Prop where
 e : t.x.op = 3 → fe σ t
 r : t.x.op ≠ 3 → ROk σ t
def Tk.newA (c : gf) (who : Int) (x : Cl) : Tk := if x.op = 3 then Tk.new c who x else Tk.newR c who x
structure KeptA (σ : az) (t : Tk) (r : az × Tk × Bool) (k : Nat) : Prop where
 si : SI r.1 (k + 3)
 c : r.1.c = σ.c
 obs : σ.obs.length ≤ r.1.obs.length
 ok : r.2.2 = false → AOk r.1 r.2.1
 x : r.2.1.x = t.x
theorem AOk.new {σ : az} (hc : ci σ.c = true) (who : Int) (x : Cl) : AOk σ (Tk.newA σ.c who x) := by
 by_cases ho : x.op = 3
 ·rw [show Tk.newA σ.c who x = Tk.new σ.c who x from if_pos ho]
  exact ⟨fun _ => fe.new hc who x, fun h => absurd ho h⟩
 ·rw [show Tk.newA σ.c who x = Tk.newR σ.c who x from if_neg ho]
  exact ⟨fun h => absurd h ho, fun _ => ROk.new hc who x⟩
theorem AOk.mono {σ σ' : az} {t : Tk} (T : AOk σ t) (hc : σ'.c = σ.c) (ho : σ.obs.length ≤ σ'.obs.length) : AOk σ' t := ⟨fun h => (T.e h).mono' hc ho, fun h => (T.r h).mono hc ho⟩
section
variable (p x : Nat) (rp : List Nat)
end
def ev (E : List Ev) (k : Nat) : Ev := (E[k]?).getD ⟨0, 0, (0, 0, 0)⟩
structure EvR (x : Ev) : Prop where
 who : 0 ≤ x.who ∧ x.who ≤ 63
 kind : 1 ≤ x.kind ∧ x.kind ≤ 6
structure YO (E : List Ev) (k j : Nat) : Prop where
 lt : k < j
 jl : j < E.length
 who : (ev E k).who = (ev E j).who
 no : ∀ m, k < m → m < j → (ev E m).who ≠ (ev E j).who
def sto (x : Ev) : Prop := x.kind = 2 ∨ x.kind = 3
structure ahE (E : List Ev) (k j : Nat) : Prop where
 lt : k < j
 jl : j < E.length
 kind : (ev E j).kind = 1 ∨ (ev E j).kind = 3 ∨ (ev E j).kind = 4
 loc : (ev E k).loc = (ev E j).loc
 sto : sto (ev E k)
 no : ∀ m, k < m → m < j → ¬ ((ev E m).loc = (ev E j).loc ∧ Gst.sto (ev E m))
inductive HB (E : List Ev) : Nat → Nat → Prop
 | refl (i : Nat) : HB E i i
 | own {i k j : Nat} : HB E i k → YO E k j → HB E i j
 | fnd {i k j : Nat} : HB E i k → ahE E k j → HB E i j
section
variable {E l : List Ev} {i j k : Nat} {x : Ev}
theorem dX (h : k < E.length) : ev (E ++ l) k = ev E k := by unfold ev; rw [List.getElem?_append_left h]
theorem mf : ev (E ++ [x]) E.length = x := by unfold ev; rw [List.getElem?_append_right (bj _), Nat.sub_self]; rfl
theorem YO.app (h : YO E k j) : YO (E ++ l) k j := by
 have hj := h.jl;have hk := h.lt;refine ⟨hk, by rw [dh]; omega, ?_, fun m h1 h2 => ?_⟩
 ·rw [dX (by omega), dX hj]; exact h.who
 ·rw [dX (by omega), dX hj]; exact h.no m h1 h2
theorem ahE.app (h : ahE E k j) : ahE (E ++ l) k j := by
 have hj := h.jl;have hk := h.lt;refine ⟨hk, by rw [dh]; omega, ?_, ?_, ?_, fun m h1 h2 => ?_⟩
 ·rw [dX hj]; exact h.kind
 ·rw [dX (by omega), dX hj]; exact h.loc
 ·rw [dX (by omega)]; exact h.sto
 ·rw [dX (by omega), dX hj]; exact h.no m h1 h2
theorem HB.app (h : HB E i j) : HB (E ++ l) i j := by
 induction h with
 | refl => exact .refl _
 | own _ o ih => exact .own ih o.app
 | fnd _ o ih => exact .fnd ih o.app
theorem HB.le (h : HB E i j) : i ≤ j := by
 induction h with
 | refl => exact bj _
 | own _ o ih => have := o.lt; omega
 | fnd _ o ih => have := o.lt; omega
theorem HB.same (h : HB E i k) : ∀ (d j : Nat), j = k + d → j < E.length → (ev E k).who = (ev E j).who → HB E i j := by
 intro d
 induction d using Nat.strongRecOn with
 | ind d ih =>
  intro j hj hl hw
  by_cases hd : d = 0
  ·subst hd; subst hj; exact h
  have last : ∀ n, k + n < j → (∀ m, k + n < m → m < j → (ev E m).who ≠ (ev E j).who) → ∃ m, k ≤ m ∧ YO E m j := by
   intro n
   induction n with
   | zero => exact fun h1 h2 => ⟨k, bj _, by omega, hl, hw, fun m h3 h4 => h2 m (by omega) h4⟩
   | succ n ihn =>
    intro h1 h2
    by_cases he : (ev E (k + (n + 1))).who = (ev E j).who
    ·exact ⟨_, by omega, h1, hl, he, fun m h3 h4 => h2 m h3 h4⟩
    ·refine ihn (by omega) fun m h3 h4 => ?_
     by_cases hm : m = k + (n + 1)
     ·rw [hm]; exact he
     ·exact h2 m (by omega) h4
  obtain ⟨m, hkm, ho⟩ := last (d - 1) (by omega) (fun m h1 h2 => by omega);have hmj := ho.lt;exact .own (ih (m - k) (by omega) m (by omega) (by omega) (by rw [hw]; exact ho.who.symm)) ho
end
structure I5 where
 md : Nat → Nat
 cl : Nat → Nat → Option Int
 lk : Nat → Option Int
def I5.claim (G : I5) (o k : Nat) (who : Int) : I5 := { G with cl := fun a b => if a = o ∧ b = k then some who else G.cl a b }
def I5.link (G : I5) (o : Nat) (who : Int) : I5 := { G with lk := fun a => if a = o then some who else G.lk a }
def I5.make (G : I5) (o k : Nat) : I5 := { G with md := fun a => if a = o then k else G.md a }
def I7 (G : I5) (E : List Ev) (n : Nat) (who : Int) (o : Nat) : Prop := o < n ∧ ∃ k, k < E.length ∧ (ev E k).who = who ∧ HB E (G.md o) k
structure RG (G : I5) (E : List Ev) (V : b7 → Nat) (n : Nat) : Prop where
 kd : ∀ x ∈ E, EvR x
 pl : ∀ x ∈ E, x.loc.1 ≠ 13 → x.loc.1 ≠ 14 → x.loc.1 ≠ 16 → x.kind < 5
 ob : ∀ j, j < E.length → (ev E j).loc.1 = 13 → ∃ o : Nat, o < n ∧ (ev E j).loc = (13, (o : Int), 0) ∧ ((ev E j).kind = 5 ∨ j = G.md o) ∧ HB E (G.md o) j
 sl : ∀ s i, V (10, s, i) ≠ 0 → V (10, s, i) % 4294967296 < n ∧ ∃ st, st < E.length ∧ (ev E st).loc = (10, s, i) ∧ sto (ev E st) ∧ (∀ m, st < m → m < E.length → ¬ ((ev E m).loc = (10, s, i) ∧ sto (ev E m))) ∧ HB E (G.md (V (10, s, i) % 4294967296)) st
 ln : ∀ x ∈ E, x.loc.1 = 14 → ∃ o : Nat, x.loc = (14, (o : Int), 0) ∧ G.lk o = some x.who
 ce : ∀ x ∈ E, x.loc.1 = 16 → ∃ o k : Nat, x.loc = (16, (o : Int), (k : Int)) ∧ G.cl o k = some x.who
 wc : ∀ o k : Nat, G.cl o k ≠ none → k < ax (V (11, (o : Int), 0))
 wl : ∀ o : Nat, G.lk o ≠ none → aS (V (11, (o : Int), 0)) ≠ 0
 hd : ∀ o : Nat, V (12, (o : Int), 0) = 0
section
variable {G : I5} {E l : List Ev} {V V' : b7 → Nat} {n n' o k : Nat} {x : Ev} {who : Int}
theorem I7.app (h : I7 G E n who o) : I7 G (E ++ l) n who o := by
 obtain ⟨h0, k, h1, h2, h3⟩ := h;exact ⟨h0, k, by rw [dh]; omega, by rw [dX h1]; exact h2, h3.app⟩
theorem I7.last (h : I7 G E n x.who o) : HB (E ++ [x]) (G.md o) E.length := by
 obtain ⟨h0, k, h1, h2, h3⟩ := h;exact h3.app.same (E.length - k) E.length (by omega) (by simp) (by rw [dX h1, mf]; exact h2)
theorem RG.ev (h : RG G E V n) (r : EvR x) (pl : x.loc.1 ≠ 13 → x.loc.1 ≠ 14 → x.loc.1 ≠ 16 → x.kind < 5)
 (ob : x.loc.1 = 13 → ∃ o : Nat, x.loc = (13, (o : Int), 0) ∧ x.kind = 5 ∧ I7 G E n x.who o)
 (ln : x.loc.1 = 14 → ∃ o : Nat, x.loc = (14, (o : Int), 0) ∧ G.lk o = some x.who)
 (ce : x.loc.1 = 16 → ∃ o k : Nat, x.loc = (16, (o : Int), (k : Int)) ∧ G.cl o k = some x.who)
 (hs : ∀ s i, V' (10, s, i) ≠ 0 → (V' (10, s, i) = V (10, s, i) ∧ ¬ (x.loc = (10, s, i) ∧ sto x)) ∨ (x.loc = (10, s, i) ∧ sto x ∧ I7 G E n x.who (V' (10, s, i) % 4294967296)))
 (h11 : ∀ o : Nat, ax (V (11, (o : Int), 0)) ≤ ax (V' (11, (o : Int), 0)) ∧ (aS (V (11, (o : Int), 0)) ≠ 0 → aS (V' (11, (o : Int), 0)) ≠ 0))
 (h12 : ∀ o : Nat, V' (12, (o : Int), 0) = V (12, (o : Int), 0)) : RG G (E ++ [x]) V' n := by
 have hm : ∀ {y : Ev}, y ∈ E ++ [x] → y ∈ E ∨ y = x := fun hy => by
  rcases List.mem_append.1 hy with h | h
  ·exact .inl h
  ·exact .inr (List.mem_singleton.1 h)
 have hlen : (E ++ [x]).length = E.length + 1 := by simp
 refine ⟨fun y hy => ?_, fun y hy => ?_, fun j hj hl => ?_, fun s i hv => ?_, fun y hy => ?_, fun y hy => ?_, fun o k hc => ?_, fun o hc => ?_, fun o => ?_⟩
 ·rcases hm hy with hy | rfl
  ·exact h.kd y hy
  ·exact r
 ·rcases hm hy with hy | rfl
  ·exact h.pl y hy
  ·exact pl
 ·rcases Nat.lt_or_ge j E.length with hj2 | hj2
  ·rw [dX hj2] at hl ⊢
   obtain ⟨o, o1, o2, o3, o4⟩ := h.ob j hj2 hl;exact ⟨o, o1, o2, o3, o4.app⟩
  ·have : j = E.length := by omega
   subst this;rw [mf] at hl ⊢;obtain ⟨o, o1, o2, o3⟩ := ob hl;exact ⟨o, o3.1, o1, .inl o2, o3.last⟩
 ·rcases hs s i hv with ⟨h1, h2⟩ | ⟨h1, h2, h3⟩
  ·rw [h1] at hv ⊢
   obtain ⟨q1, st, q2, q3, q4, q5, q6⟩ := h.sl s i hv;refine ⟨q1, st, by omega, by rw [dX q2]; exact q3, by rw [dX q2]; exact q4, fun m m1 m2 => ?_, q6.app⟩
   rcases Nat.lt_or_ge m E.length with hm2 | hm2
   ·rw [dX hm2]; exact q5 m m1 hm2
   ·have : m = E.length := by omega
    subst this;rw [mf]; exact h2
  ·exact ⟨h3.1, E.length, by omega, by rw [mf]; exact h1, by rw [mf]; exact h2, fun m m1 m2 => by omega, h3.last⟩
 ·rcases hm hy with hy | rfl
  ·exact h.ln y hy
  ·exact ln
 ·rcases hm hy with hy | rfl
  ·exact h.ce y hy
  ·exact ce
 ·have := h.wc o k hc
  have := (h11 o).1;omega
 ·exact (h11 o).2 (h.wl o hc)
 ·rw [h12]; exact h.hd o
theorem RG.claim (h : RG G E V n) (o k : Nat) (who : Int) (hn : G.cl o k = none) (hk : k < ax (V (11, (o : Int), 0))) : RG (G.claim o k who) E V n := by
 refine ⟨h.kd, h.pl, h.ob, h.sl, h.ln, fun x hx hl => ?_, fun a b hc => ?_, h.wl, h.hd⟩
 ·obtain ⟨a, b, h1, h2⟩ := h.ce x hx hl
  refine ⟨a, b, h1, ?_⟩;show (if a = o ∧ b = k then some who else G.cl a b) = _;rw [if_neg (fun q => by rw [q.1, q.2, hn] at h2; cases h2)];exact h2
 ·by_cases q : a = o ∧ b = k
  ·rw [q.1, q.2]; exact hk
  ·refine h.wc a b fun hh => hc ?_
   show (if a = o ∧ b = k then some who else G.cl a b) = _;rw [if_neg q];exact hh
theorem RG.link (h : RG G E V n) (o : Nat) (who : Int) (hn : G.lk o = none) (hk : aS (V (11, (o : Int), 0)) ≠ 0) : RG (G.link o who) E V n := by
 refine ⟨h.kd, h.pl, h.ob, h.sl, fun x hx hl => ?_, h.ce, h.wc, fun a hc => ?_, h.hd⟩
 ·obtain ⟨a, h1, h2⟩ := h.ln x hx hl
  refine ⟨a, h1, ?_⟩;show (if a = o then some who else G.lk a) = _;rw [if_neg (fun q => by rw [q, hn] at h2; cases h2)];exact h2
 ·by_cases q : a = o
  ·rw [q]; exact hk
  ·refine h.wl a fun hh => hc ?_
   show (if a = o then some who else G.lk a) = _;rw [if_neg q];exact hh
theorem RG.make (h : RG G E V n) (who : Int) (hw : 0 ≤ who ∧ who ≤ 3) : RG (G.make n E.length) (E ++ [⟨who, 6, (13, (n : Int), 0)⟩]) V (n + 1) := by
 have hm : ∀ {y : Ev}, y ∈ E ++ [⟨who, 6, (13, (n : Int), 0)⟩] → y ∈ E ∨ y = ⟨who, 6, (13, (n : Int), 0)⟩ := fun hy => by
  rcases List.mem_append.1 hy with h | h
  ·exact .inl h
  ·exact .inr (List.mem_singleton.1 h)
 have hlen : (E ++ [(⟨who, 6, (13, (n : Int), 0)⟩ : Ev)]).length = E.length + 1 := by simp
 have hg : ∀ o, o < n → (G.make n E.length).md o = G.md o := fun o ho => by
  show (if o = n then _ else _) = _;rw [if_neg (by omega)]
 have hgn : (G.make n E.length).md n = E.length := if_pos rfl;refine ⟨fun y hy => ?_, fun y hy => ?_, fun j hj hl => ?_, fun s i hv => ?_, fun y hy => ?_, fun y hy => ?_, h.wc, h.wl, h.hd⟩
 ·rcases hm hy with hy | rfl
  ·exact h.kd y hy
  ·exact ⟨⟨hw.1, by show who ≤ 63; omega⟩, ⟨by show (1 : Int) ≤ 6; omega, by show (6 : Int) ≤ 6; omega⟩⟩
 ·rcases hm hy with hy | rfl
  ·exact h.pl y hy
  ·exact fun q => absurd rfl q
 ·rcases Nat.lt_or_ge j E.length with hj2 | hj2
  ·rw [dX hj2] at hl ⊢
   obtain ⟨o, o1, o2, o3, o4⟩ := h.ob j hj2 hl;exact ⟨o, by omega, o2, by rw [hg o o1]; exact o3, by rw [hg o o1]; exact o4.app⟩
  ·have : j = E.length := by omega
   subst this;rw [mf];exact ⟨n, by omega, rfl, .inr hgn.symm, by rw [hgn]; exact .refl _⟩
 ·obtain ⟨q1, st, q2, q3, q4, q5, q6⟩ := h.sl s i hv
  refine ⟨by omega, st, by omega, by rw [dX q2]; exact q3, by rw [dX q2]; exact q4, fun m m1 m2 => ?_, by rw [hg _ q1]; exact q6.app⟩
  rcases Nat.lt_or_ge m E.length with hm2 | hm2
  ·rw [dX hm2]; exact q5 m m1 hm2
  ·have : m = E.length := by omega
   subst this;rw [mf]
   exact fun q => by simp at q
 ·rcases hm hy with hy | rfl
  ·exact h.ln y hy
  ·exact fun q => by simp at q
 ·rcases hm hy with hy | rfl
  ·exact h.ce y hy
  ·exact fun q => by simp at q
end
theorem agF {w m : Nat} (h : aR w 0 = some m) : aS w ≠ 2 ∧ aS w ≠ -1 ∧ ax m = ax w + 1 ∧ aS m = 1 := by
 have h : (if cB w ∧ aS w ≠ 2 ∧ ax w < 2305843009213693951 then some (ax w + 1 + 2305843009213693952) else none) = some m := h
 split at h
 ·rename_i hc
  obtain ⟨c1, c2, c3⟩ := hc;have e := fi h
  have hr : cB m = true := by
   unfold cB;refine iy ?_;omega
  refine ⟨c2, ?_, ?_, ?_⟩
  ·unfold aS; rw [if_pos c1]; omega
  ·rw [ax, if_pos hr]; omega
  ·rw [aS, if_pos hr]; omega
 ·cases h
def fh (σ : az) (o : Nat) : Nat := (am σ o).length
structure TE (G : I5) (E : List Ev) (len : Nat → Nat) (n : Nat) (t : Tk) : Prop where
 fnd : 6 ≤ t.at' ∨ t.at' = 5 ∧ t.found = true → I7 G E n t.who t.obj
 room : t.at' = 9 ∨ t.at' = 10 ∨ t.at' = 12 ∨ t.at' = 13 ∨ t.at' = 14 → ax t.w < len t.obj
 rest : t.at' = 12 ∨ t.at' = 13 → aS t.w ≠ 1
 mine : t.at' = 10 ∨ t.at' = 14 → G.cl t.obj (ax t.w) = some t.who
 link : t.at' = 14 ∨ 21 ≤ t.at' ∧ t.at' < 25 → G.lk t.obj = some t.who
def TK (G : I5) (E : List Ev) (len : Nat → Nat) (n : Nat) (t : Tk) : Prop :=
 (t.x.op = 3 → TE G E len n t) ∧ (t.x.op = 1 → t.at' = 5 → I7 G E n t.who t.obj)
structure GLe (G : I5) (E : List Ev) (len : Nat → Nat) (n : Nat) (G' : I5) (E' : List Ev) (len' : Nat → Nat) (n' : Nat) : Prop where
 ee : ∃ l, E' = E ++ l
 nn : n ≤ n'
 md : ∀ o, o < n → G'.md o = G.md o
 ll : ∀ o, o < n → len' o = len o
 cl : ∀ o k, G.cl o k ≠ none → G'.cl o k = G.cl o k
 lk : ∀ o, G.lk o ≠ none → G'.lk o = G.lk o
section
variable {G G' : I5} {E E' : List Ev} {len len' : Nat → Nat} {n n' o : Nat} {who : Int} {t : Tk} {x : Ev} {l : List Ev}
theorem I7.mono (h : I7 G E n who o) (g : GLe G E len n G' E' len' n') : I7 G' E' n' who o := by
 obtain ⟨l, rfl⟩ := g.ee;obtain ⟨h0, k, h1, h2, h3⟩ := h.app (l := l);exact ⟨Nat.lt_of_lt_of_le h0 g.nn, k, h1, h2, by rw [g.md o h0]; exact h3⟩
theorem TK.mono (h : TK G E len n t) (g : GLe G E len n G' E' len' n') : TK G' E' len' n' t := by
 refine ⟨fun h3 => ?_, fun h1 h5 => (h.2 h1 h5).mono g⟩;have T := h.1 h3;refine ⟨fun q => (T.fnd q).mono g, fun q => ?_, T.rest, fun q => ?_, fun q => ?_⟩
 ·rw [g.ll _ (T.fnd (by omega)).1]; exact T.room q
 ·have := T.mine q
  rw [g.cl _ _ (by rw [this]; simp)]; exact this
 ·have := T.link q
  rw [g.lk _ (by rw [this]; simp)]; exact this
theorem GLe.refl : GLe G E len n G E len n := ⟨⟨[], by simp⟩, bj _, fun _ _ => rfl, fun _ _ => rfl, fun _ _ _ => rfl, fun _ _ => rfl⟩
theorem GLe.app (hl : ∀ o, len' o = len o) : GLe G E len n G (E ++ l) len' n := ⟨⟨l, rfl⟩, bj _, fun _ _ => rfl, fun o _ => hl o, fun _ _ _ => rfl, fun _ _ => rfl⟩
theorem TE.low (h : t.at' < 5 ∨ t.at' = 5 ∧ t.found = false) : TE G E len n t :=
 ⟨fun q => False.elim (by
  rcases h with h | ⟨h, h2⟩
  ·omega
  ·rcases q with q | ⟨_, q⟩
   ·omega
   ·rw [h2] at q; cases q), fun q => by omega, fun q => by omega, fun q => by omega, fun q => by omega⟩
theorem TE.mid (h : I7 G E n t.who t.obj) (hn : t.at' ≠ 9 ∧ t.at' ≠ 10 ∧ t.at' ≠ 12 ∧ t.at' ≠ 13 ∧ t.at' ≠ 14 ∧ (t.at' < 21 ∨ 25 ≤ t.at')) : TE G E len n t :=
 ⟨fun _ => h, fun q => by omega, fun q => by omega, fun q => by omega, fun q => by omega⟩
theorem TE.rm (h : I7 G E n t.who t.obj) (hr : ax t.w < len t.obj) (h2 : t.at' = 12 ∨ t.at' = 13 → aS t.w ≠ 1) (hn : t.at' ≠ 10 ∧ t.at' ≠ 14 ∧ t.at' < 21) : TE G E len n t :=
 ⟨fun _ => h, fun _ => hr, h2, fun q => by omega, fun q => by omega⟩
theorem TE.own (h : I7 G E n t.who t.obj) (hr : ax t.w < len t.obj) (hc : G.cl t.obj (ax t.w) = some t.who) (hl : t.at' = 14 → G.lk t.obj = some t.who) (hn : t.at' = 10 ∨ t.at' = 14) : TE G E len n t :=
 ⟨fun _ => h, fun _ => hr, fun q => by omega, fun _ => hc, fun q => hl (by omega)⟩
end
def StK (σ : az) (t : Tk) (r : az × Tk × Bool) : Prop :=
 ∀ G, RG G σ.μ.E σ.μ.V σ.obs.length → TK G σ.μ.E (fh σ) σ.obs.length t →
  ∃ G', RG G' r.1.μ.E r.1.μ.V r.1.obs.length ∧ GLe G σ.μ.E (fh σ) σ.obs.length G' r.1.μ.E (fh r.1) r.1.obs.length ∧ r.2.1.who = t.who ∧ (r.2.2 = false → TK G' r.1.μ.E (fh r.1) r.1.obs.length r.2.1)
structure Pla (x : Ev) (V V' : b7 → Nat) : Prop where
 r : EvR x
 k : x.kind < 5
 l : x.loc.1 ≠ 13 ∧ x.loc.1 ≠ 14 ∧ x.loc.1 ≠ 16
 s : ∀ s i, V' (10, s, i) ≠ 0 → V' (10, s, i) = V (10, s, i) ∧ ¬ (x.loc = (10, s, i) ∧ sto x)
 w : ∀ o : Nat, V' (11, (o : Int), 0) = V (11, (o : Int), 0)
 h : ∀ o : Nat, V' (12, (o : Int), 0) = V (12, (o : Int), 0)
section
variable {G : I5} {E : List Ev} {V V' : b7 → Nat} {n : Nat} {x : Ev} {who : Int}
theorem evr (hw : 0 ≤ who ∧ who ≤ 3) (k : Int) (l : b7) (hk : 1 ≤ k ∧ k ≤ 6) : EvR ⟨who, k, l⟩ := ⟨⟨hw.1, by show who ≤ 63; omega⟩, hk⟩
end
section
variable {σ : az} {t : Tk} {r : az × Tk × Bool}
theorem kH {σ' : az} (h : σ'.obs = σ.obs) : ∀ o, fh σ' o = fh σ o := fun o => by unfold fh am; rw [h]
theorem px (μ : Mu) (who : Int) (l : b7) (a b : Nat) : (μ.swp who l a b).V = if μ.V l = a then (fun z => if z = l then b else μ.V z) else μ.V := by
 unfold Mu.swp Mu.swap
 split <;> rfl
theorem afI (h : (aD σ t).found = true) : σ.μ.V (10, t.s, (t.i : Int)) ≠ 0 ∧ (aD σ t).obj = σ.μ.V (10, t.s, (t.i : Int)) % 4294967296 := by
 have h2 : tn (σ.μ.V (10, t.s, (t.i : Int))) t.x.flow = true := h;refine ⟨(fun q => by rw [q] at h2; cases h2), ?_⟩;show (if tn (σ.μ.V (10, t.s, (t.i : Int))) t.x.flow = true then _ else _) = _;rw [if_pos h2]
end
section
variable {σ : az} {t : Tk}
theorem DC {μ : Mu} {i w m : Nat} : cY μ i w (some m) = decide (μ.V (11, (i : Int), 0) = w) := by unfold cY; simp
theorem xd (o : Nat) : fh (g7 σ t) o = fh σ o := by
 unfold fh am g7;dsimp only;rw [List.getElem?_modify]
 split
 ·rename_i h
  subst h
  cases σ.obs[t.obj]? <;> simp
 ·cases σ.obs[o]? <;> simp
end
section
variable {σ : az} {t : Tk}
end
def RI (σ : az) (tk : Nat → Option Tk) : Prop := ∃ G, RG G σ.μ.E σ.μ.V σ.obs.length ∧ ∀ w t, w < 4 → tk w = some t → t.who = w ∧ TK G σ.μ.E (fh σ) σ.obs.length t
theorem RI.step {σ : az} {tk : Nat → Option Tk} {w : Nat} {t : Tk} {r : az × Tk × Bool} (h : RI σ tk) (hw : w < 4) (ht : tk w = some t) (st : 0 ≤ t.who ∧ t.who ≤ 3 → StK σ t r) :
 RI r.1 (fun k => if k = w then (if r.2.2 = true then none else some r.2.1) else tk k) := by
 obtain ⟨G, R, T⟩ := h;obtain ⟨h1, h2⟩ := T w t hw ht;obtain ⟨G', R', g, h3, h4⟩ := st (by omega) G R h2;refine ⟨G', R', fun w' t' hw' gF => ?_⟩;dsimp only at gF
 by_cases e : w' = w
 ·subst e
  rw [if_pos rfl] at gF;cases hd : r.2.2
  ·rw [hd, if_neg (by simp)] at gF
   cases gF;exact ⟨by rw [h3]; exact h1, h4 hd⟩
  ·rw [hd, if_pos rfl] at gF; cases gF
 ·rw [if_neg e] at gF
  obtain ⟨k1, k2⟩ := T w' t' hw' gF;exact ⟨k1, k2.mono g⟩
theorem RI.new {σ : az} {tk : Nat → Option Tk} {w : Nat} {t : Tk} (h : RI σ tk) (hw : t.who = w) (h0 : t.at' = 0) : RI σ (fun k => if k = w then some t else tk k) := by
 obtain ⟨G, R, T⟩ := h;refine ⟨G, R, fun w' t' hw' gF => ?_⟩;dsimp only at gF
 by_cases e : w' = w
 ·subst e
  rw [if_pos rfl] at gF;cases gF;exact ⟨hw, fun _ => TE.low (.inl (by omega)), fun _ h5 => by omega⟩
 ·rw [if_neg e] at gF
  exact T w' t' hw' gF
theorem RG.made {c : gf} (hc : ci c = true) : ∀ n, n ≤ 16 → ∃ G, RG G (az.made c n).μ.E (az.made c n).μ.V (az.made c n).obs.length := by
 intro n
 induction n with
 | zero =>
  exact fun _ => ⟨⟨fun _ => 0, fun _ _ => none, fun _ => none⟩, (fun x hx => by cases hx), (fun x hx => by cases hx), (fun j hj => by cases hj), (fun s i q => absurd rfl q), (fun x hx => by cases hx), (fun x hx => by cases hx), (fun _ _ q => absurd rfl q), (fun _ q => absurd rfl q), fun _ => rfl⟩
 | succ n ih =>
  intro hn;obtain ⟨G, R⟩ := ih (by omega);have hm := xf c n;unfold az.made
  split
  ·have R1 := R.make 0 ⟨by omega, by omega⟩
   obtain ⟨s0, hs0⟩ : ∃ s0, s0 = ((n : Nat) : Int).tmod (az.made c n).c.sh := ⟨_, rfl⟩;obtain ⟨i0, hi0⟩ : ∃ i0, i0 = ((n : Nat) : Int).tdiv (az.made c n).c.sh := ⟨_, rfl⟩;obtain ⟨o0, ho0⟩ : ∃ o0, o0 = (az.made c n).obs.length := ⟨_, rfl⟩
   have hlen : ((az.made c n).lay (n : Int) (1 + (n : Int)) (2 + (n : Int).tmod 2)).obs.length = (az.made c n).obs.length + 1 := by simp [az.lay, az.make]
   have e : ((G.make (az.made c n).obs.length (az.made c n).μ.E.length).md (az.made c n).obs.length) = (az.made c n).μ.E.length := if_pos rfl;refine ⟨G.make (az.made c n).obs.length (az.made c n).μ.E.length, ?_⟩;rw [hlen];show RG _ ((az.made c n).μ.E ++ [⟨0, 6, (13, ((az.made c n).obs.length : Int), 0)⟩] ++ [⟨0, 2, (10, ((n : Nat) : Int).tmod (az.made c n).c.sh, ((n : Nat) : Int).tdiv (az.made c n).c.sh)⟩]) (fun z => if z = (10, ((n : Nat) : Int).tmod (az.made c n).c.sh, ((n : Nat) : Int).tdiv (az.made c n).c.sh) then dJ n (az.made c n).obs.length else (az.made c n).μ.V z) _;rw [← hs0, ← hi0]
   have hb : I7 (G.make (az.made c n).obs.length (az.made c n).μ.E.length) ((az.made c n).μ.E ++ [⟨0, 6, (13, ((az.made c n).obs.length : Int), 0)⟩]) ((az.made c n).obs.length + 1) 0 (az.made c n).obs.length :=
    ⟨by omega, (az.made c n).μ.E.length, by simp, by rw [mf], by rw [e]; exact .refl _⟩
   refine R1.ev (evr ⟨by omega, by omega⟩ 2 _ (by omega)) (fun _ _ _ => (by show (2 : Int) < 5; omega)) (fun q => by simp at q) (fun q => by simp at q) (fun q => by simp at q) (fun s i q => ?_) (fun o => ?_) (fun o => if_neg (by simp))
   ·have q : (if ((10 : Int), s, i) = (10, s0, i0) then dJ n (az.made c n).obs.length else (az.made c n).μ.V (10, s, i)) ≠ 0 := q
    show ((if ((10 : Int), s, i) = (10, s0, i0) then dJ n (az.made c n).obs.length else (az.made c n).μ.V (10, s, i)) = _ ∧ _) ∨ (_ ∧ _ ∧ I7 _ _ _ 0 ((if ((10 : Int), s, i) = (10, s0, i0) then dJ n (az.made c n).obs.length else (az.made c n).μ.V (10, s, i)) % 4294967296))
    by_cases q2 : ((10 : Int), s, i) = (10, s0, i0)
    ·rw [if_pos q2, xZ (by omega)]
     exact .inr ⟨q2.symm, .inl rfl, hb⟩
    ·rw [if_neg q2]
     exact .inl ⟨rfl, fun q => q2 q.1.symm⟩
   ·show ax ((az.made c n).μ.V (11, (o : Int), 0)) ≤ ax (if ((11 : Int), (o : Int), (0 : Int)) = (10, s0, i0) then dJ n (az.made c n).obs.length else (az.made c n).μ.V (11, (o : Int), 0)) ∧ (_ → aS (if ((11 : Int), (o : Int), (0 : Int)) = (10, s0, i0) then dJ n (az.made c n).obs.length else (az.made c n).μ.V (11, (o : Int), 0)) ≠ 0)
    rw [if_neg (by simp)];exact ⟨bj _, fun q => q⟩
  ·exact ⟨G, R⟩
def dA (n : Nat) (st lt : Bool) (i a : Nat) : Nat := match a with
 | 0 => 13 + 2 * n | 2 => 13 + n + (n - i) | 3 => 13 + n | 4 => 12 + (n - i) | 5 => 12 | 6 => 11 | 7 => 10
 | 8 => if st then 14 else 9 | 9 => if st then 11 else 3 | 10 => 2 | 11 => 1 | 12 => if st then 13 else 8 | 13 => if st then 12 else 7 | 14 => 6
 | 15 => 4 | 16 => 3 | 17 => 2 | 18 => 1 | 20 => 11 | 21 => 5 | 22 => 4 | 23 => if lt then 6 else 3 | 24 => if lt then 5 else 2 | _ => 1
def eA (n : Nat) (i a : Nat) : Nat := match a with
 | 0 => n + 13 | 2 => n + 13 | 3 => n + 13 | 4 => n - i + 12 | 5 => 12 | 6 => 11 | 7 => 11 | 8 => 11 | 9 => 11 | 12 => 11 | 13 => 11 | 15 => 11 | 16 => 11 | 17 => 11 | 18 => 11 | 20 => 11
 | 14 => 3 | 21 => 3 | 22 => 3 | 23 => 3 | 24 => 3 | _ => 0
theorem Zm (n : Nat) (st lt : Bool) (i a : Nat) : 1 ≤ dA n st lt i a := by
 unfold dA
 split <;> first | omega | (split <;> omega)
theorem anU (n : Nat) (st st' lt : Bool) (i a : Nat) : dA n st' lt i a ≤ dA n st lt i a + 8 := by
 cases st <;> cases st' <;> (unfold dA; split <;> simp)
theorem anT (n : Nat) (st lt pK : Bool) (i a : Nat) : dA n st pK i a ≤ dA n st lt i a + 3 := by
 cases lt <;> cases pK <;> (unfold dA; split <;> simp)
theorem anS (n : Nat) (st lt : Bool) (i a : Nat) : dA n st lt i a ≤ 14 + 2 * n := by
 cases st <;> cases lt <;> (unfold dA; split <;> first | omega | (simp; done) | (simp; omega))
theorem anV (n : Nat) (i a : Nat) : eA n i a ≤ n + 13 := by
 unfold eA
 split <;> omega
def ya (σ : az) (t : Tk) : Bool := decide (σ.μ.V (11, (t.obj : Int), 0) ≠ t.w)
def Cr (σ : az) (t : Tk) : Bool := decide (σ.μ.V (9, t.s, 0) ≠ t.top)
def dT (n : Nat) (σ : az) (t : Tk) : Nat := dA n (ya σ t) (Cr σ t) t.i t.at'
def kQ (n : Nat) (t : Tk) : Nat := eA n t.i t.at'
def kR (n : Nat) (r : az × Tk × Bool) : Nat := if r.2.2 = true then 0 else kQ n r.2.1
def wj (σ : az) (t : Tk) : Prop := t.at' = 3 ∧ σ.μ.V (8, t.s, 0) ≠ 0
def jm (t : Tk) : Prop := t.at' = 4 ∨ t.at' = 5
structure Sfs (σ : az) : Prop where
 v2 : σ.μ.V (2, 0, 0) = 0
 wr : ∀ o : Nat, cB (σ.μ.V (11, (o : Int), 0)) = true ∧ aS (σ.μ.V (11, (o : Int), 0)) ≠ 2
 hd : ∀ o : Nat, σ.μ.V (12, (o : Int), 0) = 0
structure Qd (σ : az) (t : Tk) : Prop where
 q : t.at' = 16 ∨ t.at' = 17 ∨ t.at' = 18 → t.q = 0
 cw : t.at' = 8 → ax t.w ≤ ax (σ.μ.V (11, (t.obj : Int), 0))
 fl : t.at' = 15 ∨ t.at' = 16 → fh σ t.obj ≤ ax (σ.μ.V (11, (t.obj : Int), 0))
 fw : t.at' = 17 → fh σ t.obj ≤ ax t.w
 rm : t.at' = 9 ∨ t.at' = 12 ∨ t.at' = 13 → ax t.w < fh σ t.obj
structure PotR (n : Nat) (σ : az) (t : Tk) (r : az × Tk × Bool) : Prop where
 own : wj σ t ∨ r.2.2 = true ∨ dT n r.1 r.2.1 + 1 ≤ dT n σ t
 spn : wj σ t → r.2.2 = false ∧ r.2.1 = t ∧ dT n r.1 t ≤ dT n σ t
 oth : ∀ u, dT n r.1 u + kR n r ≤ dT n σ u + kQ n t
 hol : jm t ∨ t.at' = 3 ∧ ¬ wj σ t → ∀ u, dT n r.1 u + kR n r + 1 ≤ dT n σ u + kQ n t
 hld : r.2.2 = false → jm r.2.1 → jm t ∨ t.at' = 3 ∧ ¬ wj σ t
 sf : Sfs r.1
 tf : r.2.2 = false → Qd r.1 r.2.1
 ofs : ∀ u, Qd σ u → Qd r.1 u
section
variable {n : Nat} {σ σ' : az} {t u : Tk} {r : az × Tk × Bool}
theorem QF (h11 : ∀ o : Nat, σ'.μ.V (11, (o : Int), 0) = σ.μ.V (11, (o : Int), 0)) (h9 : ∀ s, σ'.μ.V (9, s, 0) = σ.μ.V (9, s, 0)) (u : Tk) : dT n σ' u = dT n σ u := by
 unfold dT ya Cr;rw [h11, h9]
theorem Qd.mono (T : Qd σ u) (h11 : ∀ o : Nat, ax (σ.μ.V (11, (o : Int), 0)) ≤ ax (σ'.μ.V (11, (o : Int), 0))) (hl : ∀ o, fh σ' o = fh σ o) : Qd σ' u :=
 ⟨T.q, fun h => dZ (T.cw h) (h11 _), fun h => by rw [hl]; exact dZ (T.fl h) (h11 _), fun h => by rw [hl]; exact T.fw h, fun h => by rw [hl]; exact T.rm h⟩
theorem lV (hat3 : ¬ wj σ t) (h11 : ∀ o : Nat, r.1.μ.V (11, (o : Int), 0) = σ.μ.V (11, (o : Int), 0)) (h9 : ∀ s, r.1.μ.V (9, s, 0) = σ.μ.V (9, s, 0)) (h2 : r.1.μ.V (2, 0, 0) = σ.μ.V (2, 0, 0)) (h12 : ∀ o : Nat, r.1.μ.V (12, (o : Int), 0) = σ.μ.V (12, (o : Int), 0)) (hl : ∀ o, fh r.1 o = fh σ o)
 (S : Sfs σ) (own : r.2.2 = true ∨ dT n σ r.2.1 + 1 ≤ dT n σ t) (oth : kR n r ≤ kQ n t) (hol : jm t ∨ t.at' = 3 → kR n r + 1 ≤ kQ n t) (hld : r.2.2 = false → jm r.2.1 → jm t ∨ t.at' = 3) (tf : r.2.2 = false → Qd σ r.2.1) : PotR n σ t r := by
 have e := fun u => QF (n := n) h11 h9 u;have S' : Sfs r.1 := ⟨by rw [h2]; exact S.v2, fun o => by rw [h11]; exact S.wr o, fun o => by rw [h12]; exact S.hd o⟩;have M : ∀ {u}, Qd σ u → Qd r.1 u := fun T => T.mono (fun o => Nat.le_of_eq (by rw [h11])) hl;refine ⟨.inr (by rw [e]; exact own), fun h => absurd h hat3, fun u => by rw [e]; omega, fun h u => ?_, fun hd h => ?_, S', fun hd => M (tf hd), fun u T => M T⟩
 ·rw [e]
  have := hol (by rcases h with h | h; exact .inl h; exact .inr h.1)
  omega
 ·rcases hld hd h with h | h
  ·exact .inl h
  ·exact .inr ⟨h, hat3⟩
theorem wu {V : b7 → Nat} {l z : b7} {v : Nat} (h : z.1 ≠ l.1) : (if z = l then v else V z) = V z := if_neg (fun e => h (by rw [e]))
theorem dm (hat3 : ¬ wj σ t) {μ' : Mu} (hμ : r.1.μ = μ') (hob : r.1.obs = σ.obs) (hV : μ'.V = σ.μ.V ∨ ∃ l v, μ'.V = (fun z => if z = l then v else σ.μ.V z) ∧ l.1 ≠ 11 ∧ l.1 ≠ 9 ∧ l.1 ≠ 2 ∧ l.1 ≠ 12)
 (S : Sfs σ) (own : r.2.2 = true ∨ dT n σ r.2.1 + 1 ≤ dT n σ t) (oth : kR n r ≤ kQ n t) (hol : jm t ∨ t.at' = 3 → kR n r + 1 ≤ kQ n t) (hld : r.2.2 = false → jm r.2.1 → jm t ∨ t.at' = 3) (tf : r.2.2 = false → Qd σ r.2.1) : PotR n σ t r := by
 have key : ∀ z : b7, z.1 = 11 ∨ z.1 = 9 ∨ z.1 = 2 ∨ z.1 = 12 → r.1.μ.V z = σ.μ.V z := by
  intro z hz;rw [hμ]
  rcases hV with h | ⟨l, v, h, h1, h2, h3, h4⟩
  ·rw [h]
  ·rw [h]
   refine wu ?_;omega
 exact lV hat3 (fun o => key _ (.inl rfl)) (fun s => key _ (.inr (.inl rfl))) (key _ (.inr (.inr (.inl rfl)))) (fun o => key _ (.inr (.inr (.inr rfl)))) (kH hob) S own oth hol hld tf
end
section
variable {n : Nat} {σ : az} {t : Tk}
theorem ns (h : t.at' ≠ 3) : ¬ wj σ t := fun q => h q.1
theorem nh {P : Prop} (h : t.at' ≠ 3 ∧ t.at' ≠ 4 ∧ t.at' ≠ 5) : jm t ∨ t.at' = 3 → P := fun q => by
 rcases q with (q | q) | q <;> omega
theorem Fa {r : az × Tk × Bool} {P : Prop} (h : r.2.2 = false → r.2.1.at' ≠ 4 ∧ r.2.1.at' ≠ 5) : r.2.2 = false → jm r.2.1 → P := fun hd q => by
 have := h hd
 rcases q with q | q <;> omega
theorem L7 {t' : Tk} (h : t'.at' ≠ 8 ∧ t'.at' ≠ 9 ∧ t'.at' ≠ 12 ∧ t'.at' ≠ 13 ∧ t'.at' ≠ 15 ∧ t'.at' ≠ 16 ∧ t'.at' ≠ 17 ∧ t'.at' ≠ 18) : Qd σ t' :=
 ⟨fun q => by omega, fun q => by omega, fun q => by omega, fun q => by omega, fun q => by omega⟩
theorem ak9 (h : σ.μ.V (11, (t.obj : Int), 0) = t.w) : ya σ t = false := by unfold ya; simp [h]
theorem aoQ (h : ¬ σ.μ.V (11, (t.obj : Int), 0) = t.w) : ya σ t = true := by unfold ya; simp [h]
theorem akZ (h : σ.μ.V (9, t.s, 0) = t.top) : Cr σ t = false := by unfold Cr; simp [h]
theorem an7 (h : ¬ σ.μ.V (9, t.s, 0) = t.top) : Cr σ t = true := by unfold Cr; simp [h]
theorem lr {a : Nat} (h : t.at' = a) : dT n σ t = dA n (ya σ t) (Cr σ t) t.i a := by unfold dT; rw [h]
theorem Ey {a : Nat} (h : t.at' = a) : kQ n t = eA n t.i a := by unfold kQ; rw [h]
theorem apD {r : az × Tk × Bool} (h : r.2.2 = true) : kR n r = 0 := by unfold kR; rw [if_pos h]
theorem ahT {r : az × Tk × Bool} {a : Nat} (h : r.2.2 = false) (h2 : r.2.1.at' = a) : kR n r = eA n r.2.1.i a := by unfold kR kQ; rw [if_neg (by rw [h]; simp), h2]
theorem qW (hn : (n : Int) = σ.c.sl) (S : Sfs σ) (r : az × Tk × Bool) (a0 a1 c : Nat) (cc : Int) (hat : t.at' = a0) (h3 : a0 ≠ 3) (hμ : r.1.μ = (b6 σ t).μ) (hob : r.1.obs = σ.obs) (he : r.2.1 = { aD σ t with at' := a1, code := cc })
 (hd : ∀ st lt st' pK, dA n st' pK (t.i + 1) a1 + 1 ≤ dA n st lt t.i a0) (heA : eA n (t.i + 1) a1 ≤ eA n t.i a0) (hh : a0 = 4 ∨ a0 = 5 → eA n (t.i + 1) a1 + 1 ≤ eA n t.i a0) (hl : a1 = 4 ∨ a1 = 5 → a0 = 4 ∨ a0 = 5) (h1 : a1 < 7) : PotR n σ t r := by
 have e1 : r.2.1.at' = a1 := by rw [he]
 have e2 : r.2.1.i = t.i + 1 := by rw [he]; rfl
 have eu : kR n r ≤ eA n (t.i + 1) a1 := by
  unfold kR kQ
  split
  ·omega
  ·rw [e1, e2]; omega
 have V : ∀ z, r.1.μ.V z = σ.μ.V z := fun z => by rw [hμ]
 refine lV (ns (by omega)) (fun o => V _) (fun s => V _) (V _) (fun o => V _) (kH hob) S (.inr ?_) ?_ (fun q => ?_) (fun hdn q => ?_) (fun _ => L7 (by omega))
 ·rw [lr e1, lr hat, e2]
  exact hd _ _ _ _
 ·rw [Ey hat]; omega
 ·rw [Ey hat]
  have := hh (by rcases q with (q | q) | q <;> omega)
  omega
 ·have := hl (by rcases q with q | q <;> omega)
  left
  unfold jm;omega
theorem LK (S : Sfs σ) (F : Qd σ t) (hlen : fh σ t.obj < 1000) (a0 a1 af : Nat) (hat : t.at' = a0) (h9 : a0 = 9 ∧ a1 = 10 ∧ af = 7 ∨ a0 = 13 ∧ a1 = 14 ∧ af = 20) (now : Int) (c : Int) :
 PotR n σ t (if cY σ.μ t.obj t.w (aR t.w 0) = true then ((σ.mem (σ.μ.turn t.who t.obj t.w (aR t.w 0))).note now t.who 0, { t with at' := a1, code := c }, false) else (σ.mem (σ.μ.turn t.who t.obj t.w (aR t.w 0)), { t with at' := af }, false)) := by
 have hrm := F.rm (by omega)
 by_cases hv : σ.μ.V (11, (t.obj : Int), 0) = t.w
 ·have hw := S.wr t.obj
  rw [hv] at hw
  have em : aR t.w 0 = some (ax t.w + 1 + 2305843009213693952) := by
   show (if _ then _ else _) = _;rw [if_pos ⟨hw.1, hw.2, by omega⟩]
  obtain ⟨m, hm⟩ : ∃ m, m = ax t.w + 1 + 2305843009213693952 := ⟨_, rfl⟩;rw [← hm] at em;obtain ⟨m1, m2, m3, m4⟩ := agF em;rw [em, DC, if_pos (iy hv)]
  have eV : (σ.μ.swp t.who (11, (t.obj : Int), 0) t.w m).V = fun z => if z = (11, (t.obj : Int), 0) then m else σ.μ.V z := by rw [px, if_pos hv]
  obtain ⟨r, hr⟩ : ∃ r : az × Tk × Bool, r = ((σ.mem (σ.μ.turn t.who t.obj t.w (some m))).note now t.who 0, { t with at' := a1, code := c }, false) := ⟨_, rfl⟩;rw [← hr]
  have hV : ∀ z, r.1.μ.V z = if z = (11, (t.obj : Int), 0) then m else σ.μ.V z := fun z => by
   rw [hr];show (σ.μ.swp t.who (11, (t.obj : Int), 0) t.w m).V z = _;rw [eV]
  have r3 : r.2.2 = false := by rw [hr]
  have ra : r.2.1.at' = a1 := by rw [hr]
  have rob : r.1.obs = σ.obs := by rw [hr]
  have V11 : ∀ o : Nat, r.1.μ.V (11, (o : Int), 0) = if o = t.obj then m else σ.μ.V (11, (o : Int), 0) := fun o => by
   rw [hV]
   by_cases e : o = t.obj
   ·rw [if_pos (by rw [e]), if_pos e]
   ·rw [if_neg (fun h => e (by injection h with _ h; injection h with h _; omega)), if_neg e]
  have V9 : ∀ s, r.1.μ.V (9, s, 0) = σ.μ.V (9, s, 0) := fun s => by rw [hV]; exact if_neg (by simp)
  have cnt : ∀ o : Nat, ax (σ.μ.V (11, (o : Int), 0)) ≤ ax (r.1.μ.V (11, (o : Int), 0)) := fun o => by
   rw [V11]
   split
   ·rename_i e; rw [e, hv]; omega
   ·omega
  have du : ∀ u, dT n r.1 u ≤ dT n σ u + 8 := fun u => by
   unfold dT
   have e : Cr r.1 u = Cr σ u := by unfold Cr; rw [V9]
   rw [e];exact anU n _ _ _ _ _
  have eu : kR n r + 8 ≤ kQ n t := by
   rw [ahT r3 ra, Ey hat]
   rcases h9 with ⟨h1, h2, _⟩ | ⟨h1, h2, _⟩ <;> (rw [h1, h2]; simp [eA])
  have Sr : Sfs r.1 := by
   refine ⟨?_, fun o => ?_, fun o => ?_⟩
   ·rw [hV, if_neg (by simp)]; exact S.v2
   ·rw [V11]
    split
    ·refine ⟨?_, by rw [m4]; decide⟩
     unfold cB;refine iy ?_;omega
    ·exact S.wr o
   ·rw [hV, if_neg (by simp)]; exact S.hd o
  refine ⟨.inr (.inr ?_), fun h => absurd h.1 (by omega), fun u => by have := du u; omega, fun h => ?_, fun _ h => ?_, Sr, fun _ => L7 (by omega), fun u U => U.mono cnt (kH rob)⟩
  ·rw [lr ra, lr hat, ak9 hv]
   rcases h9 with ⟨h1, h2, _⟩ | ⟨h1, h2, _⟩ <;> (rw [h1, h2]; simp [dA])
  ·rcases h with (h | h) | ⟨h, _⟩ <;> omega
  ·rcases h with h | h <;> omega
 ·have hst : ya σ t = true := aoQ hv
  have hf : cY σ.μ t.obj t.w (aR t.w 0) = false := by
   unfold cY;rw [gU hv, Bool.and_false]
  rw [hf, if_neg (by simp)]
  have V : ∀ z, (σ.μ.turn t.who t.obj t.w (aR t.w 0)).V z = σ.μ.V z := fun z => by
   cases e : aR t.w 0 with
   | none => rfl
   | some m =>
    show (σ.μ.swp t.who (11, (t.obj : Int), 0) t.w m).V z = _;rw [px, if_neg hv]
  refine lV (ns (by omega)) (fun o => V _) (fun s => V _) (V _) (fun o => V _) (kH rfl) S (.inr ?_) ?_ (nh (by omega)) (Fa fun _ => by dsimp only; omega) (fun _ => L7 (by dsimp only; omega))
  ·rw [lr (show ({ t with at' := af } : Tk).at' = af from rfl), lr hat, hst]
   rcases h9 with ⟨h1, _, h2⟩ | ⟨h1, _, h2⟩ <;> (rw [h1, h2]; simp [dA])
  ·rw [ahT rfl (show ({ t with at' := af } : Tk).at' = af from rfl), Ey hat]
   rcases h9 with ⟨h1, _, h2⟩ | ⟨h1, _, h2⟩ <;> (rw [h1, h2]; simp [eA])
theorem Ye (hn : (n : Int) = σ.c.sl) (K : fe σ t) (S : Sfs σ) (F : Qd σ t) (hlen : ∀ o, o < σ.obs.length → fh σ o < 1000) (now : Int) : PotR n σ t (ai σ t now) := by
 have hi : t.at' < 5 → t.at' ≠ 3 → t.i < n := fun h1 h2 => by have := K.i h1 h2; omega
 have hla : cR σ (aD σ t) = decide (n ≤ t.i + 1) := by
  show decide (σ.c.sl ≤ ((t.i + 1 : Nat) : Int)) = _;rw [← hn]
  congr 1
  apply propext;omega
 have full : t.at' = 8 ∨ t.at' = 17 → ku σ t = decide (fh σ t.obj ≤ ax t.w) := fun _ => by
  unfold ku mn;rw [S.hd];unfold fh
  congr 1
  apply propext;omega
 unfold ai;dsimp only
 split
 ·rename_i hat
  split
  ·exact dm (ns (by omega)) rfl rfl (.inl rfl) S (.inl rfl) (by simp [dT, kQ, kR, dA, eA, hat, ya, Cr]) (nh (by omega)) (Fa fun h => by cases h) (fun h => by cases h)
  ·refine qW hn S _ 0 (if (aD σ t).found = true then 6 else if cR σ (aD σ t) = true then 3 else 2) 0 t.code hat (by omega) rfl rfl rfl ?_ ?_ (by omega) ?_ ?_
   all_goals (rw [hla]; have := hi (by omega) (by omega); cases (aD σ t).found <;> simp only [if_true, if_false, Bool.false_eq_true, reduceIte] <;> (try split) <;> simp [dA, eA] <;> omega)
 ·rename_i hat
  refine qW hn S _ 2 (if (aD σ t).found = true then 6 else if cR σ (aD σ t) = true then 3 else 2) 0 t.code hat (by omega) rfl rfl rfl ?_ ?_ (by omega) ?_ ?_
  all_goals (rw [hla]; have := hi (by omega) (by omega); cases (aD σ t).found <;> simp only [if_true, if_false, Bool.false_eq_true, reduceIte] <;> (try split) <;> simp [dA, eA] <;> omega)
 ·rename_i hat
  by_cases h0 : σ.μ.V (8, t.s, 0) = 0
  ·rw [if_pos h0]
   have hns : ¬ wj σ t := fun q => q.2 h0;refine dm hns rfl rfl (.inr ⟨(8, t.s, 0), 1, by rw [px, if_pos h0], by simp, by simp, by simp, by simp⟩) S (.inr (by simp [dT, dA, hat]; omega)) (by simp [kQ, kR, eA, hat]) (fun _ => by simp [kQ, kR, eA, hat]) (fun _ _ => .inr hat) (fun _ => L7 (by simp))
  ·rw [if_neg h0]
   have hsp : wj σ t := ⟨hat, h0⟩
   have V : ∀ z, (σ.μ.swp t.who (8, t.s, 0) 0 1).V z = σ.μ.V z := fun z => by rw [px, if_neg h0]
   have e := fun u => QF (n := n) (σ := σ) (σ' := σ.mem (σ.μ.swp t.who (8, t.s, 0) 0 1)) (fun o => V _) (fun s => V _) u
   have eu : kR n (σ.mem (σ.μ.swp t.who (8, t.s, 0) 0 1), t, false) = kQ n t := by unfold kR; rw [if_neg (by simp)]
   have S' : Sfs (σ.mem (σ.μ.swp t.who (8, t.s, 0) 0 1)) := ⟨by rw [show (σ.mem (σ.μ.swp t.who (8, t.s, 0) 0 1)).μ.V (2, 0, 0) = _ from V _]; exact S.v2, fun o => by rw [show (σ.mem (σ.μ.swp t.who (8, t.s, 0) 0 1)).μ.V (11, (o : Int), 0) = _ from V _]; exact S.wr o, fun o => by rw [show (σ.mem (σ.μ.swp t.who (8, t.s, 0) 0 1)).μ.V (12, (o : Int), 0) = _ from V _]; exact S.hd o⟩;refine ⟨.inl hsp, fun _ => ⟨rfl, rfl, Nat.le_of_eq (e t)⟩, fun u => Nat.le_of_eq (by rw [eu]; exact congrArg (· + kQ n t) (e u)), fun h => ?_, fun _ h => ?_, S', fun _ => L7 (t' := t) (by omega), fun u U => U.mono (fun o => by rw [show (σ.mem (σ.μ.swp t.who (8, t.s, 0) 0 1)).μ.V (11, (o : Int), 0) = _ from V _]; exact bj _) (fun _ => rfl)⟩
   ·rcases h with (h | h) | ⟨_, h⟩
    ·omega
    ·omega
    ·exact absurd hsp h
   ·rcases h with h | h
    ·have h : t.at' = 4 := h
     omega
    ·have h : t.at' = 5 := h
     omega
 ·rename_i hat
  have hin := hi (by omega) (by omega)
  split
  ·exact qW hn S _ 4 5 0 t.code hat (by omega) rfl rfl rfl (fun _ _ _ _ => by simp [dA]; omega) (by simp [eA]) (fun _ => by simp [eA]; omega) (fun _ => .inl rfl) (by omega)
  ·split
   ·exact qW hn S _ 4 5 0 5 hat (by omega) rfl rfl rfl (fun _ _ _ _ => by simp [dA]; omega) (by simp [eA]) (fun _ => by simp [eA]; omega) (fun _ => .inl rfl) (by omega)
   ·exact qW hn S _ 4 4 0 t.code hat (by omega) rfl rfl (by rw [show (aD σ t) = { aD σ t with at' := (aD σ t).at', code := (aD σ t).code } from rfl, show (aD σ t).at' = 4 from hat]; rfl) (fun _ _ _ _ => by simp [dA]; omega) (by simp [eA]; omega) (fun _ => by simp [eA]; omega) (fun _ => .inl rfl) (by omega)
 ·rename_i hat
  cases hf : t.found
  ·refine dm (ns (by omega)) rfl rfl (.inr ⟨_, _, rfl, by simp, by simp, by simp, by simp⟩) S (.inl rfl) (by simp [kQ, kR, eA, hat]) (fun _ => by simp [kQ, kR, eA, hat]) (fun h => by cases h) (fun h => by cases h)
  ·refine dm (ns (by omega)) rfl rfl (.inr ⟨_, _, rfl, by simp, by simp, by simp, by simp⟩) S (.inr (by simp [dT, dA, hat])) (by simp [kQ, kR, eA, hat]) (fun _ => by simp [kQ, kR, eA, hat]) (Fa fun _ => by simp) (fun _ => L7 (by simp))
 ·rename_i hat
  exact dm (ns (by omega)) rfl rfl (.inl rfl) S (.inr (by simp [dT, kQ, kR, dA, eA, hat, ya, Cr])) (by simp [dT, kQ, kR, dA, eA, hat, ya, Cr]) (nh (by omega)) (Fa fun _ => by simp) (fun _ => L7 (by simp))
 ·rename_i hat
  rw [if_neg (S.wr t.obj).2];refine dm (ns (by omega)) rfl rfl (.inl rfl) S (.inr ?_) (by simp [kQ, kR, eA, hat]) (nh (by omega)) (Fa fun _ => by simp) (fun _ => ?_)
  ·rw [lr hat]
   show dA n (ya σ { t with w := σ.μ.V (11, (t.obj : Int), 0), at' := 8 }) _ _ 8 + 1 ≤ _;rw [ak9 rfl];simp [dA]
  ·exact ⟨fun q => by simp at q, fun _ => bj _, fun q => by simp at q, fun q => by simp at q, fun q => by simp at q⟩
 ·rename_i hat
  rw [full (.inl hat)]
  by_cases hfu : fh σ t.obj ≤ ax t.w
  ·rw [if_pos (iy hfu)]
   refine dm (ns (by omega)) rfl rfl (.inl rfl) S (.inr ?_) (by simp [kQ, kR, eA, hat]) (nh (by omega)) (Fa fun _ => by simp) (fun _ => ?_)
   ·rw [lr hat]
    show dA n _ _ _ 15 + 1 ≤ _
    cases ya σ t <;> simp [dA]
   ·exact ⟨fun q => by simp at q, fun q => by simp at q, fun _ => dZ hfu (F.cw hat), fun q => by simp at q, fun q => by simp at q⟩
  ·rw [if_neg (by rw [gU hfu]; simp)]
   refine dm (ns (by omega)) rfl rfl (.inl rfl) S (.inr ?_) (by have e : ∀ a, a = 9 ∨ a = 12 → eA n t.i a = 11 := (fun a h => by rcases h with rfl | rfl <;> simp [eA]); rw [ahT rfl rfl, Ey hat]; show eA n t.i (if aS t.w = 1 then 9 else 12) ≤ _; rw [e _ (by split <;> simp)]; simp [eA]) (nh (by omega)) (Fa fun _ => by dsimp only; split <;> simp) (fun _ => ?_)
   ·rw [lr hat]
    show dA n (ya σ t) _ _ (if aS t.w = 1 then 9 else 12) + 1 ≤ _
    cases ya σ t <;> (split <;> simp [dA])
   ·refine ⟨fun q => ?_, fun q => ?_, fun q => ?_, fun q => ?_, fun _ => by show ax t.w < fh σ t.obj; omega⟩
    all_goals (dsimp only at q; split at q <;> omega)
 ·rename_i hat
  exact LK S F (hlen _ (K.obj (.inl (by omega)))) 9 10 7 hat (.inl ⟨rfl, rfl, rfl⟩) now 0
 ·rename_i hat
  have V : ∀ z, (g7 σ t).μ.V z = σ.μ.V z := fun z => rfl;exact lV (ns (by omega)) (fun o => V _) (fun s => V _) (V _) (fun o => V _) xd S (.inr (by simp [dT, dA, hat])) (by simp [kQ, kR, eA, hat]) (nh (by omega)) (Fa fun _ => by simp) (fun _ => L7 (by simp))
 ·rename_i hat
  exact dm (ns (by omega)) rfl rfl (.inr ⟨_, _, rfl, by simp, by simp, by simp, by simp⟩) S (.inl rfl) (by simp [dT, kQ, kR, dA, eA, hat, ya, Cr]) (nh (by omega)) (Fa fun h => by cases h) (fun h => by cases h)
 ·rename_i hat
  refine dm (ns (by omega)) rfl rfl (.inr ⟨_, _, rfl, by simp, by simp, by simp, by simp⟩) S (.inr ?_) (by simp [kQ, kR, eA, hat]) (nh (by omega)) (Fa fun _ => by simp) (fun _ => ?_)
  ·rw [lr hat]
   show dA n (ya σ t) _ _ 13 + 1 ≤ _
   cases ya σ t <;> simp [dA]
  ·exact ⟨fun q => by simp at q, fun q => by simp at q, fun q => by simp at q, fun q => by simp at q, fun _ => F.rm (.inr (.inl hat))⟩
 ·rename_i hat
  exact LK S F (hlen _ (K.obj (.inl (by omega)))) 13 14 20 hat (.inr ⟨rfl, rfl, rfl⟩) now 0
 ·rename_i hat
  have V : ∀ z, (g7 σ t).μ.V z = σ.μ.V z := fun z => rfl;exact lV (ns (by omega)) (fun o => V _) (fun s => V _) (V _) (fun o => V _) xd S (.inr (by simp [dT, dA, hat])) (by simp [kQ, kR, eA, hat]) (nh (by omega)) (Fa fun _ => by simp) (fun _ => L7 (by simp))
 ·rename_i hat
  rw [S.v2, if_neg (by omega)];exact dm (ns (by omega)) rfl rfl (.inl rfl) S (.inr (by simp [dT, dA, hat])) (by simp [kQ, kR, eA, hat]) (nh (by omega)) (Fa fun _ => by simp) (fun _ => ⟨fun _ => rfl, fun q => by simp at q, fun _ => F.fl (.inl hat), fun q => by simp at q, fun q => by simp at q⟩)
 ·rename_i hat
  rw [if_neg (S.wr t.obj).2];exact dm (ns (by omega)) rfl rfl (.inl rfl) S (.inr (by simp [dT, dA, hat])) (by simp [kQ, kR, eA, hat]) (nh (by omega)) (Fa fun _ => by simp) (fun _ => ⟨fun _ => F.q (.inl hat), fun q => by simp at q, fun q => by simp at q, fun _ => F.fl (.inr hat), fun q => by simp at q⟩)
 ·rename_i hat
  rw [full (.inr hat), if_pos (iy (F.fw hat))];exact dm (ns (by omega)) rfl rfl (.inl rfl) S (.inr (by simp [dT, dA, hat])) (by simp [kQ, kR, eA, hat]) (nh (by omega)) (Fa fun _ => by simp) (fun _ => ⟨fun _ => F.q (.inr (.inl hat)), fun q => by simp at q, fun q => by simp at q, fun q => by simp at q, fun q => by simp at q⟩)
 ·rename_i hat
  rw [if_pos (by rw [S.v2, F.q (.inr (.inr hat))])];exact dm (ns (by omega)) rfl rfl (.inl rfl) S (.inl rfl) (by simp [kQ, kR, eA, hat]) (nh (by omega)) (Fa fun h => by cases h) (fun h => by cases h)
 ·rename_i hat
  exact dm (ns (by omega)) rfl rfl (.inr ⟨_, _, rfl, by simp, by simp, by simp, by simp⟩) S (.inr (by simp [dT, kQ, kR, dA, eA, hat, ya, Cr])) (by simp [dT, kQ, kR, dA, eA, hat, ya, Cr]) (nh (by omega)) (Fa fun _ => by simp) (fun _ => L7 (by simp))
 ·rename_i hat
  exact dm (ns (by omega)) rfl rfl (.inr ⟨_, _, rfl, by simp, by simp, by simp, by simp⟩) S (.inr (by simp [dT, kQ, kR, dA, eA, hat, ya, Cr])) (by simp [dT, kQ, kR, dA, eA, hat, ya, Cr]) (nh (by omega)) (Fa fun _ => by simp) (fun _ => L7 (by simp))
 ·rename_i hat
  refine dm (ns (by omega)) rfl rfl (.inl rfl) S (.inr ?_) (by simp [kQ, kR, eA, hat]) (nh (by omega)) (Fa fun _ => by simp) (fun _ => L7 (by simp));rw [lr hat];show dA n _ (Cr σ { t with top := σ.μ.V (9, t.s, 0), at' := 23 }) _ 23 + 1 ≤ _;rw [akZ rfl];simp [dA]
 ·rename_i hat
  have V : ∀ z, (σ.μ.acc t.who 6 (14, (t.obj : Int), 0)).V z = σ.μ.V z := fun z => rfl;refine lV (ns (by omega)) (fun o => V _) (fun s => V _) (V _) (fun o => V _) (kH rfl) S (.inr ?_) (by simp [kQ, kR, eA, hat]) (nh (by omega)) (Fa fun _ => by simp) (fun _ => L7 (by simp));rw [lr hat];show dA n _ (Cr σ t) _ 24 + 1 ≤ _
  cases Cr σ t <;> simp [dA]
 ·rename_i hat
  by_cases h0 : σ.μ.V (9, t.s, 0) = t.top
  ·rw [if_pos h0]
   obtain ⟨r, hr⟩ : ∃ r : az × Tk × Bool, r = (σ.mem (σ.μ.swp t.who (9, t.s, 0) t.top (t.obj + 1)), { t with at' := 25 }, false) := ⟨_, rfl⟩;rw [← hr]
   have hV : ∀ z, r.1.μ.V z = if z = (9, t.s, 0) then t.obj + 1 else σ.μ.V z := fun z => by
    rw [hr];show (σ.μ.swp t.who (9, t.s, 0) t.top (t.obj + 1)).V z = _;rw [px, if_pos h0]
   have r3 : r.2.2 = false := by rw [hr]
   have ra : r.2.1.at' = 25 := by rw [hr]
   have rob : r.1.obs = σ.obs := by rw [hr]
   have V11 : ∀ o : Nat, r.1.μ.V (11, (o : Int), 0) = σ.μ.V (11, (o : Int), 0) := fun o => by rw [hV]; exact if_neg (by simp)
   have du : ∀ u, dT n r.1 u ≤ dT n σ u + 3 := fun u => by
    unfold dT
    have e : ya r.1 u = ya σ u := by unfold ya; rw [V11]
    rw [e];exact anT n _ _ _ _ _
   have eu : kR n r + 3 ≤ kQ n t := by
    rw [ahT r3 ra, Ey hat];simp [eA]
   have Sr : Sfs r.1 := ⟨by rw [hV, if_neg (by simp)]; exact S.v2, fun o => by rw [V11]; exact S.wr o, fun o => by rw [hV, if_neg (by simp)]; exact S.hd o⟩;refine ⟨.inr (.inr ?_), fun h => absurd h.1 (by omega), fun u => by have := du u; omega, fun h => ?_, fun _ h => ?_, Sr, fun _ => L7 (by omega), fun u U => U.mono (fun o => Nat.le_of_eq (by rw [V11])) (kH rob)⟩
   ·rw [lr ra, lr hat, akZ h0]
    simp [dA]
   ·rcases h with (h | h) | ⟨h, _⟩ <;> omega
   ·rcases h with h | h <;> omega
  ·rw [if_neg h0]
   have V : ∀ z, (σ.μ.swp t.who (9, t.s, 0) t.top (t.obj + 1)).V z = σ.μ.V z := fun z => by rw [px, if_neg h0]
   refine lV (ns (by omega)) (fun o => V _) (fun s => V _) (V _) (fun o => V _) (kH rfl) S (.inr ?_) (by simp [kQ, kR, eA, hat]) (nh (by omega)) (Fa fun _ => by simp) (fun _ => L7 (by simp));rw [lr hat, an7 h0];show dA n _ _ _ 22 + 1 ≤ _;simp [dA]
 ·have h3 : t.at' ≠ 3 := by assumption
  have h4 : t.at' ≠ 4 := by assumption
  have h5 : t.at' ≠ 5 := by assumption
  exact dm (ns h3) rfl rfl (.inr ⟨_, _, rfl, by simp, by simp, by simp, by simp⟩) S (.inl rfl) (by rw [apD rfl]; omega) (fun q => by rcases q with (q | q) | q <;> omega) (fun h => by cases h) (fun h => by cases h)
end
theorem Xg {P : SP} {H : AH} {s : Value} {l : List Int} [hR : Rd P s 1 dO l] (n most : Nat) (hn : 0 < n ∧ n < 1000) (hm : most < 1000) {k : Value × AH → OV} {Q : Value → AH → Prop} (h : ac P H)
 (hk : ∀ (v : Value) (o : List Int) (H' : AH), o.length ≤ most → (∀ y ∈ o, 0 ≤ y ∧ y < n) → ac (ts 1 dO v o * P) H' → wp (k (v, H')) Q) : wp ((FF SV [s, vi (n : Int), vi (most : Int)] H).bind k) Q := by
 have law : Sp SV [s, vi (n : Int), vi (most : Int)] P (fun g : Value × List Int => g.1) (fun g => pu (g.2.length ≤ most ∧ ∀ y ∈ g.2, 0 ≤ y ∧ y < n) * (ts 1 dO g.1 g.2 * P)) := by
  refine aX (amG _ _ _) fun R H h => ?_;refine ah (WZ ..) ?_;refine ah (W0 ..) ?_;have app : ∀ (v : Value) (o : List Int) (x : Int) (H : AH) {kk : Value × AH → OV} {Q : Value → AH → Prop}, o.length < most → ac (ts 1 dO v o * (P * R)) H → (∀ v' H', ac (ts 1 dO v' (o ++ [x]) * (P * R)) H' → wp (kk (v', H')) Q) →
   wp (ze 1 1 [(vi 0)] [(0, vi x)] H fun v25 H26 => (dN 1 8 v v25 H26).bind kk) Q := by
   intro v o x H kk Q ho hh hk;refine L8 hh fun b H1 h1 => ?_;refine gu (s := v) (l := o) (x : Int) h1 rfl ?_ (by omega) fun a c H2 h2 => ?_
   ·unfold room; omega
   exact hk _ H2 h2.to
  have snoc : ∀ {o : List Int} {x : Int}, (∀ y ∈ o, 0 ≤ y ∧ y < (n : Int)) → ∀ y ∈ o ++ [dY x n], 0 ≤ y ∧ y < (n : Int) := by
   intro o x hv y hy
   rcases List.mem_append.1 hy with hy | hy
   ·exact hv y hy
   ·rw [List.mem_singleton.1 hy]; exact fv (by omega)
  -- one again and again
  have inner : ∀ (d i j : Nat) (ki : Int) (v : Value) (o : List Int) (H : AH) {Q : Value → AH → Prop}, most - o.length = d → o.length ≤ most → (∀ y ∈ o, 0 ≤ y ∧ y < (n : Int)) → i < l.length → 0 ≤ ki ∧ ki < 40 → j < 1000 + o.length → ac (ts 1 dO v o * (P * R)) H →
   (∀ v' o' H', o.length ≤ o'.length → o'.length ≤ most → (∀ y ∈ o', 0 ≤ y ∧ y < (n : Int)) → ac (ts 1 dO v' o' * (P * R)) H' → wp (HV s (vi (n : Int)) (vi (most : Int)) (.slice none 0 0) v' (vi ki) (vi (i : Int)) H') Q) →
   wp (z9 s (vi (n : Int)) (vi (most : Int)) (.slice none 0 0) v (vi ki) (vi (i : Int)) (vi (j : Int)) H) Q := by
   intro d
   induction d with
   | zero =>
    intro i j ki v o H Q hd ho hv hil hki hj hh hk;refine ah (CB ..) ?_;refine fp (s := s) (l := l) (v := vi l[i]) hh hil rfl ?_;refine ag hh (cy l[i] 7 (by omega) (by omega)) fun _ H1 h1 => ?_;have m7 := fv (v := l[i]) (n := 7) (by omega);refine aa (ks (by omega)) ?_;have q3 : 0 ≤ ki.tmod 3 ∧ ki.tmod 3 < 3 := ⟨Int.tmod_nonneg _ hki.1, Int.tmod_lt_of_pos _ (by omega)⟩;have p0 : 0 ≤ dY l[i] 7 * ki.tmod 3 := Int.mul_nonneg m7.1 q3.1;have p1 : dY l[i] 7 * ki.tmod 3 ≤ 7 * 3 := Int.mul_le_mul (by omega) (by omega) q3.1 (by omega);refine aa (jf (by omega) (by omega)) ?_
    have out : wp (rX s (vi (n : Int)) (vi (most : Int)) (.slice none 0 0) v (vi ki) (vi (i : Int)) H1) Q := by
     refine ah (vx ..) ?_;exact hk v o H1 (bj _) ho hv h1.to
    by_cases hlt : (j : Int) < dY l[i] 7 * ki.tmod 3
    ·refine aa (bO hlt) ?_
     refine gs ?_;refine ge (s := v) (l := o) h1 ?_;refine gs ?_;refine aa (bu (by omega)) ?_;refine gs ?_;exact out
    ·refine aa (bu hlt) ?_
     refine gs ?_;exact out
   | succ d ih =>
    intro i j ki v o H Q hd ho hv hil hki hj hh hk;refine ah (CB ..) ?_;refine fp (s := s) (l := l) (v := vi l[i]) hh hil rfl ?_;refine ag hh (cy l[i] 7 (by omega) (by omega)) fun _ H1 h1 => ?_;have m7 := fv (v := l[i]) (n := 7) (by omega);refine aa (ks (by omega)) ?_;have q3 : 0 ≤ ki.tmod 3 ∧ ki.tmod 3 < 3 := ⟨Int.tmod_nonneg _ hki.1, Int.tmod_lt_of_pos _ (by omega)⟩;have p0 : 0 ≤ dY l[i] 7 * ki.tmod 3 := Int.mul_nonneg m7.1 q3.1;have p1 : dY l[i] 7 * ki.tmod 3 ≤ 7 * 3 := Int.mul_le_mul (by omega) (by omega) q3.1 (by omega);refine aa (jf (by omega) (by omega)) ?_
    have out : wp (rX s (vi (n : Int)) (vi (most : Int)) (.slice none 0 0) v (vi ki) (vi (i : Int)) H1) Q := by
     refine ah (vx ..) ?_;exact hk v o H1 (bj _) ho hv h1.to
    by_cases hlt : (j : Int) < dY l[i] 7 * ki.tmod 3
    ·refine aa (bO hlt) ?_
     refine gs ?_;refine ge (s := v) (l := o) h1 ?_;refine gs ?_;refine aa (bO (by omega)) ?_;refine gs ?_;refine ah (Ov ..) ?_;refine fp (s := s) (l := l) (v := vi l[i]) h1 hil rfl ?_;refine ag h1 (cy l[i] n (by omega) (by omega)) fun _ H2 h2 => ?_;refine app v o (dY l[i] n) H2 (by omega) h2.to fun v' H3 h3 => ?_;refine ah (Ow ..) ?_;refine aa (aB (by omega) (by omega)) ?_;rw [show ((j : Nat) : Int) + 1 = ((j + 1 : Nat) : Int) from by omega]
     have hl1 : (o ++ [dY l[i] n]).length = o.length + 1 := by simp
     exact ih i (j + 1) ki v' (o ++ [dY l[i] n]) H3 (by omega) (by omega) (snoc hv) hil hki (by omega) h3 (fun v4 o4 H4 hle h1' hv' h2' => hk v4 o4 H4 (by omega) h1' hv' h2')
    ·refine aa (bu hlt) ?_
     refine gs ?_;exact out
  have mid : ∀ (d i : Nat) (ki : Int) (v : Value) (o : List Int) (H : AH) {Q : Value → AH → Prop}, most - o.length = d → o.length ≤ most → (∀ y ∈ o, 0 ≤ y ∧ y < (n : Int)) → i ≤ o.length → 0 ≤ ki ∧ ki < 40 → ac (ts 1 dO v o * (P * R)) H →
   (∀ v' o' H', o'.length ≤ most → (∀ y ∈ o', 0 ≤ y ∧ y < (n : Int)) → ac (ts 1 dO v' o' * (P * R)) H' → wp (Ox s (vi (n : Int)) (vi (most : Int)) (.slice none 0 0) v' (vi ki) H') Q) →
   wp (z8 s (vi (n : Int)) (vi (most : Int)) (.slice none 0 0) v (vi ki) (vi (i : Int)) H) Q := by
   intro d
   induction d using Nat.strongRecOn with
   | ind d ih =>
    intro i ki v o H Q hd ho hv hio hki hh hk;refine ah (Oo ..) ?_;refine fq (s := s) (l := l) hh ?_
    have out : wp (xq s (vi (n : Int)) (vi (most : Int)) (.slice none 0 0) v (vi ki) H) Q := by
     refine ah (HU ..) ?_;exact hk v o H ho hv hh
    by_cases hil : i < l.length
    ·refine aa (bO (by omega)) ?_
     refine gs ?_;refine ge (s := v) (l := o) hh ?_;refine gs ?_
     by_cases hlt : o.length < most
     ·refine aa (bO (by omega)) ?_
      refine gs ?_;refine ah (Oq ..) ?_;refine fp (s := s) (l := l) (v := vi l[i]) hh hil rfl ?_;refine ag hh (cy l[i] n (by omega) (by omega)) fun _ H2 h2 => ?_;refine app v o (dY l[i] n) H2 (by omega) h2.to fun v' H3 h3 => ?_;refine ah (Ou ..) ?_
      have hl1 : (o ++ [dY l[i] n]).length = o.length + 1 := by simp
      refine inner (most - (o.length + 1)) i 0 ki v' (o ++ [dY l[i] n]) H3 (by omega) (by omega) (snoc hv) hil hki (by omega) h3 fun v4 o4 H4 hle h1' hv' h2' => ?_;refine ah (Ot ..) ?_;refine aa (aB (by omega) (by omega)) ?_;rw [show ((i : Nat) : Int) + 1 = ((i + 1 : Nat) : Int) from by omega];exact ih (most - o4.length) (by omega) (i + 1) ki v4 o4 H4 rfl h1' hv' (by omega) hki h2' hk
     ·refine aa (bu (by omega)) ?_
      refine gs ?_;exact out
    ·refine aa (bu (by omega)) ?_
     refine gs ?_;exact out
  have outer : ∀ (d k : Nat) (v : Value) (o : List Int) (H : AH), k + d = 40 → o.length ≤ most → (∀ y ∈ o, 0 ≤ y ∧ y < (n : Int)) → ac (ts 1 dO v o * (P * R)) H →
   wp (HW s (vi (n : Int)) (vi (most : Int)) (.slice none 0 0) v (vi (k : Int)) H) fun v' H' => ∃ g : Value × List Int, v' = g.1 ∧ ac (pu (g.2.length ≤ most ∧ ∀ y ∈ g.2, 0 ≤ y ∧ y < n) * (ts 1 dO g.1 g.2 * P) * R) H' := by
   intro d
   induction d with
   | zero =>
    intro k v o H hk ho hv hh;refine ah (Fg ..) ?_;refine aa (bu (by omega)) ?_;refine gs ?_;refine ah (yD ..) ?_;refine ah (Ff ..) ?_;refine aq ⟨(v, o), rfl, ?_⟩;rw [ar, ac.pu];exact ⟨⟨ho, hv⟩, hh.to⟩
   | succ d ih =>
    intro k v o H hk ho hv hh;refine ah (Fg ..) ?_;refine aa (bO (by omega)) ?_;refine gs ?_;refine ge (s := s) (l := l) hh ?_;refine gs ?_
    by_cases hl0 : 0 < l.length
    ·refine aa (nI (by omega)) ?_
     refine gs ?_;refine ah (W3 ..) ?_;refine ah (W5 ..) ?_;refine mid (most - o.length) 0 k v o H rfl ho hv (Nat.zero_le _) (by omega) hh fun v' o' H' ho' hv' h' => ?_;refine ah (W4 ..) ?_;refine aa (aB (by omega) (by omega)) ?_;rw [show ((k : Nat) : Int) + 1 = ((k + 1 : Nat) : Int) from by omega];exact ih (k + 1) v' o' H' (by omega) ho' hv' h'
    ·refine aa (gh (by omega)) ?_
     refine gs ?_;refine ah (yD ..) ?_;refine ah (Ff ..) ?_;refine aq ⟨(v, o), rfl, ?_⟩;rw [ar, ac.pu];exact ⟨⟨ho, hv⟩, hh.to⟩
  have h0 := dr 1 dO h;exact outer 40 0 (.slice none 0 0) [] H rfl (Nat.zero_le _) (fun y hy => by cases hy) h0
 obtain ⟨⟨v, o⟩, H', e, h'⟩ := law emp H (by rw [eN]; exact h);rw [e];rw [eN, ac.pu] at h';exact hk v o H' h'.1.1 h'.1.2 h'.2
theorem alX {b w n e : Nat} {kk : IntKind} (hw : w < n) : L9 [.a n e (.int kk (w : Int))] (vp b) b (w * e) := fun k => by
 rw [anN hw]; show k (pP b (0 + w * e)) = _; rw [Nat.zero_add]
theorem n5 {P : SP} {H : AH} {b w n : Nat} {kk : IntKind} {ro : Bool} {cs : List Value} {v : Value} {Q : Value → AH → Prop} {k : Value → OV} (h : ac P H) [i : Hs P b (.cells ro cs)] (hw : w < n) (hv : cs[w]? = some v) (hk : wp (k v) Q) : wp (ld [.a n 1 (.int kk (w : Int))] (vp b) H k) Q :=
 av h (alX hw) (by rw [Nat.mul_one]; exact hv) hk
theorem PN (cs : List Value) (w : Nat) (v : Value) (h : w < cs.length) : splice cs w [v] = cs.set w v := by
 unfold splice;rw [List.set_eq_take_append_cons_drop, if_pos h];simp
theorem Uo {P P' : SP} {H : AH} {b w n : Nat} {kk : IntKind} {cs : List Value} {v : Value} {Q : Value → AH → Prop} {k : AH → OV} (h : ac P H) [i : Hs P b (.cells false cs)] (hw : w < n) (hn : cs.length = n) [c : uf v [v]] (hv : [v].all Value.oneCell' = true) [u : Up P b (.cells false (cs.set w v)) P']
 (hk : ∀ H', ac P' H' → wp (k H') Q) : wp (st 1 [.a n 1 (.int kk (w : Int))] (vp b) v H k) Q := by
 haveI : wB cs w [v] (cs.set w v) := ⟨by simp; omega, (PN cs w v (by omega)).symm⟩
 exact bw h (o := w) (fun k => by rw [anN hw]; show k (pP b (0 + w * 1)) = _; rw [Nat.zero_add, Nat.mul_one]) rfl hv hk
abbrev Wk := Option (Nat × Nat × Tk)
def WkR (σ : az) (q : Wk) : Prop := match q with
 | none => True
 | some q => AOk σ q.2.2
structure WsR (σ : az) (ws : List Wk) (ats : List Nat) : Prop where
 l : ws.length = 4
 al : ats.length = 4
 r : ∀ w (h : w < 4), WkR σ (ws[w]'(by omega))
theorem WkR.mono {σ σ' : az} {q : Wk} (h : WkR σ q) (hc : σ'.c = σ.c) (ho : σ.obs.length ≤ σ'.obs.length) : WkR σ' q := by
 cases q with
 | none => trivial
 | some q => exact AOk.mono (show AOk σ q.2.2 from h) hc ho
theorem WsR.mono {σ σ' : az} {ws : List Wk} {ats : List Nat} (h : WsR σ ws ats) (hc : σ'.c = σ.c) (ho : σ.obs.length ≤ σ'.obs.length) : WsR σ' ws ats :=
 ⟨h.l, h.al, fun w hw => (h.r w hw).mono hc ho⟩
theorem WsR.set {σ : az} {ws : List Wk} {ats : List Nat} (h : WsR σ ws ats) {w : Nat} (hw : w < 4) {q : Wk} (a : Nat) (hq : WkR σ q) : WsR σ (ws.set w q) (ats.set w a) := by
 refine ⟨by simp [h.l], by simp [h.al], fun w' hw' => ?_⟩;rw [List.getElem_set]
 by_cases e : w = w'
 ·rw [if_pos e]; exact hq
 ·rw [if_neg e]; exact h.r w' hw'
theorem qY {α : Type} {l : List α} {i : Nat} (h : i < l.length) : l.set i l[i] = l := List.set_getElem_self h
theorem Te : aj .ptr .eql (.pointer none) (.pointer none) = some (vb true) := rfl
theorem adM : aj .ptr .neq (.pointer none) (.pointer none) = some (vb false) := rfl
theorem ai8 (b : Nat) : aj .ptr .neq (vp b) (.pointer none) = some (vb true) := rfl
abbrev ja := Option Addr × Nat × Nat
abbrev FP (x : ja) : Value := .slice x.1 x.2.1 x.2.2
abbrev dy (x : ja) : List Value := [FP x]
instance : Enc dy 1 := ⟨fun _ => rfl, fun _ => rfl, by omega⟩
def bZ : List (ja × List Cl) → SP
 | [] => emp
 | q :: l => ts 4 Cl.cells (FP q.1) q.2 * bZ l
theorem vg : ∀ {LL : List (ja × List Cl)} {i : Nat} (h : i < LL.length), ∃ R, bZ LL = ts 4 Cl.cells (FP LL[i].1) LL[i].2 * R ∧ ∀ q, bZ (LL.set i q) = ts 4 Cl.cells (FP q.1) q.2 * R := by
 intro LL
 induction LL with
 | nil => intro i h; simp at h
 | cons q LL ih =>
  intro i h
  cases i with
  | zero => exact ⟨bZ LL, rfl, fun q => rfl⟩
  | succ i =>
   obtain ⟨R, e1, e2⟩ := ih (i := i) (by simpa using h);refine ⟨ts 4 Cl.cells (FP q.1) q.2 * R, ?_, fun q' => ?_⟩
   ·show ts 4 Cl.cells (FP q.1) q.2 * bZ LL = _
    rw [e1, bD]; rfl
   ·show ts 4 Cl.cells (FP q.1) q.2 * bZ (LL.set i q') = _
    rw [e2, bD]
theorem xe {LL : List (ja × List Cl)} {i : Nat} (h : i < LL.length) : Rd (bZ LL) (FP LL[i].1) 4 Cl.cells LL[i].2 := by
 obtain ⟨R, e1, _⟩ := vg h;rw [e1]; infer_instance
abbrev a9 (LL : List (ja × List Cl)) : List ja := LL.map fun q : ja × List Cl => q.1
structure AfterR (σ σ' : az) (k : Nat) : Prop where
 si : SI σ' k
 c : σ'.c = σ.c
 obs : σ'.obs.length = σ.obs.length
section
variable (p x : Nat) (rp : List Nat) (σ : az) (K : Nat)
end
instance {c : Bool} {e1 : Option Value} {k : Value → OV} : Gd ((ue (yv undef) c e1 (some undef)).bind k) (k undef) := ⟨fun h => by cases c <;> exact h⟩
section
variable (p x pb tb ab : Nat) (lb : Nat) (LL : List (ja × List Cl)) (pv : Value) (picks : List Int) (blows : Bool) (most : Nat)
variable (I : az → List Wk → Prop)
variable (x10 x11 : Value) (Z : SP)
variable (hL : LL.length = 4) (hQ : ∀ q ∈ LL, q.2.length ≤ 1000) (hm : most ≤ 4000) [hP : Rd Z pv 1 dO picks]
variable (hIs : ∀ (σ : az) (ws : List Wk) (w : Nat) (q : Nat × Nat × Tk) (now : Int) (K : Nat), K < 60000 → SI σ K → ws.length = 4 → ws[w]? = some (some q) → AOk σ q.2.2 → I σ ws →
 I (afW σ q.2.2 now).1 (ws.set w (if (afW σ q.2.2 now).2.2 = true then none else some (q.1, q.2.1, (afW σ q.2.2 now).2.1))))
variable (hIb : ∀ (σ : az) (ws : List Wk) (w e xk : Nat) (place : Int) (c : Cl), ci σ.c = true → ws.length = 4 → ws[w]? = some none → I σ ws → I (σ.begin w place) (ws.set w (some (e, xk, Tk.newA σ.c w c))))
variable (hIt : blows = true → ∀ (σ σ' : az) (ws : List Wk) (k : Nat), AfterR σ σ' k → I σ ws → I σ' ws)
include hL hm hP hIs hIb hIt
end
section
variable (x0 x1 x2 x3 x4 x5 x6 x7 x9 x10 x11 x12 x13 x14 x15 x16 x17 x19 x22 : Value) (H : AH)
noncomputable def j8 (p : List Nat) : Code := Code.sub (bP Tryz.f9) p
noncomputable def mO : KK := e6 PP (Tryz.f9).results.toList
noncomputable def akN : KK := CQ (j8 [1, 1, 1, 1, 1, 1, 1, 1]) mO bC mO
noncomputable def j9 : OV := akN (ls [u, u, u, u, u, u, x6, x7, u, x9, u, u, x12, x13] 169) H
noncomputable def ab3 : KK := CQ (j8 [1, 1, 1, 1, 1, 1, 1, 1, 1]) mO bC mO
noncomputable def akK : KK := dn 12259964326927110866866776217202473468949912977468813119 ab3
noncomputable def pc : OV := ab3 (ls [u, u, u, u, u, u, x6, x7, u, u, u, u, x12] 170) H
noncomputable def ab4 : KK := CQ (j8 [1, 1, 1, 1, 1, 1, 1, 1, 1, 1]) mO bC mO
noncomputable def akL : KK := dn 12259964326927110866866776217202473468949912977468817343 ab4
noncomputable def pd : OV := ab4 (ls [u, u, u, u, u, u, x6] 176) H
noncomputable def akO : KK := CQ (j8 [1, 1, 1, 1, 1, 1, 1, 1, 1, 0, 1]) akL bC mO
noncomputable def pe : OV := akO (ls [u, u, u, u, u, u, x6, x7, u, u, u, u, x12, u, u, u, u, u, u, x19] 163) H
noncomputable def acF : KX := BX 4 akL bC
noncomputable def SA : KX := mJ 12259964326927110866866776217202473468949912977468817343 acF
noncomputable def acD : KK := sC (j8 [1, 1, 1, 1, 1, 1, 1, 1, 1, 0, 1, 4, 5]) SA mO
noncomputable def akM : KK := dn 12259964326927110866866776217202473468949912977468288831 acD
noncomputable def gK : OV := acD (ls [u, u, u, u, u, u, x6, x7, u, u, u, u, x12, u, u, u, u, u, u, x19] 163) H
noncomputable def akP : KK := CQ (j8 [1, 1, 1, 1, 1, 1, 1, 1, 1, 0, 1, 4, 5, 1]) akM SA mO
noncomputable def pg : OV := akP (ls [u, u, u, u, u, u, x6, x7, u, u, u, u, x12, u, u, u, u, u, u, x19] 163) H
noncomputable def acE : KK := CQ (j8 [1, 1, 1, 1, 1, 1, 1, 1, 1, 0, 1, 4, 5, 1, 1]) akM SA mO
noncomputable def an1 : KK := dn 12259964326927110866866776217202473468949912977468288831 acE
noncomputable def pi : OV := acE (ls [u, u, u, u, u, u, x6, x7, u, u, u, u, x12, u, u, u, u, u, u, x19] 163) H
noncomputable def an2 : KX := BX 5 an1 SA
noncomputable def mo : OV := acF 4 (ls [u, u, u, u, u, u, x6] 176) H
noncomputable def ab5 : KK := CQ (j8 [1, 1, 1, 1, 1, 1, 1, 1, 0, 1]) akK bC mO
noncomputable def nM : OV := ab5 (ls [u, u, u, u, u, u, x6, x7, u, x9, u, u, x12, x13, x14] 168) H
noncomputable def NW : KX := BX 0 akK bC
noncomputable def Hx : KX := mJ 12259964326927110866866776217202473468949912977468813119 NW
noncomputable def NS : KK := sC (j8 [1, 1, 1, 1, 1, 1, 1, 1, 0, 1, 4, 5]) Hx mO
noncomputable def ab1 : KK := dn 12259964326927110866866776217202473468949912977468788031 NS
noncomputable def fW : OV := NS (ls [u, u, u, u, u, u, x6, x7, u, x9, u, u, x12, x13, x14] 168) H
noncomputable def ab7 : KK := CQ (j8 [1, 1, 1, 1, 1, 1, 1, 1, 0, 1, 4, 5, 1]) ab1 Hx mO
noncomputable def nN : OV := ab7 (ls [u, u, u, u, u, u, x6, x7, u, x9, u, u, x12, x13, x14] 168) H
noncomputable def NT : KK := CQ (j8 [1, 1, 1, 1, 1, 1, 1, 1, 0, 1, 4, 5, 1, 1]) ab1 Hx mO
noncomputable def NR : KK := dn 12259964326927110866866776217202473468949912977468788031 NT
noncomputable def fX : OV := NT (ls [u, u, u, u, u, u, x6, x7, u, x9, u, u, x12, x13, x14] 168) H
noncomputable def NX : KX := BX 1 NR Hx
noncomputable def acI : KX := mJ 12259964326927110866866776217202473468949912977468788031 NX
noncomputable def ab9 : KK := CQ (j8 [1, 1, 1, 1, 1, 1, 1, 1, 0, 1, 4, 5, 1, 0, 4, 1, 1, 1, 1, 1]) NR acI mO
noncomputable def nO : OV := ab9 (ls [u, u, u, u, u, u, x6, x7, u, x9, u, u, x12, x13, x14, u, x16, x17] 165) H
noncomputable def NY : KX := BX 2 NR acI
noncomputable def Hy : KX := mJ 12259964326927110866866776217202473468949912977468788031 NY
noncomputable def NU : KK := sC (j8 [1, 1, 1, 1, 1, 1, 1, 1, 0, 1, 4, 5, 1, 0, 4, 1, 1, 1, 1, 1, 4, 5]) Hy mO
noncomputable def ab2 : KK := dn 12259964326927110866866776217202473468949912977468591423 NU
noncomputable def fY : OV := NU (ls [u, u, u, u, u, u, x6, x7, u, x9, u, u, x12, x13, x14, u, x16, x17] 165) H
noncomputable def acB : KK := CQ (j8 [1, 1, 1, 1, 1, 1, 1, 1, 0, 1, 4, 5, 1, 0, 4, 1, 1, 1, 1, 1, 4, 5, 1]) ab2 Hy mO
noncomputable def nP : OV := acB (ls [u, u, u, u, u, u, x6, x7, u, x9, u, u, x12, x13, x14, u, x16, x17] 165) H
noncomputable def NV : KK := CQ (j8 [1, 1, 1, 1, 1, 1, 1, 1, 0, 1, 4, 5, 1, 0, 4, 1, 1, 1, 1, 1, 4, 5, 1, 1]) ab2 Hy mO
noncomputable def al6 : KK := dn 12259964326927110866866776217202473468949912977468591423 NV
noncomputable def fZ : OV := NV (ls [u, u, u, u, u, u, x6, x7, u, x9, u, u, x12, x13, x14, u, x16, x17] 165) H
noncomputable def acG : KX := BX 3 al6 Hy
noncomputable def lH : OV := acG 3 (ls [u, u, u, u, u, u, x6, x7, u, x9, u, u, x12, x13, x14, u, x16, x17] 165) H
noncomputable def lG : OV := NY 2 (ls [u, u, u, u, u, u, x6, x7, u, x9, u, u, x12, x13, x14] 168) H
noncomputable def lF : OV := NX 1 (ls [u, u, u, u, u, u, x6, x7, u, x9, u, u, x12, x13, x14] 168) H
noncomputable def lE : OV := NW 0 (ls [u, u, u, u, u, u, x6, x7, u, u, u, u, x12] 170) H
theorem fg : ap 12259964326927110866866776217202473468949912977468817343 mO := rf
theorem aiT : ap 12259964326927110866866776217202473468949912977468804415 akN := rc fg aA fg
theorem Hv : ap 12259964326927110866866776217202473468949912977468813119 ab3 := rc fg aA fg
theorem Hw : ap 12259964326927110866866776217202473468949912977468817343 ab4 := rc fg aA fg
theorem aiU : ap 12259964326927110866866776217202473468949912977468288831 akO := rc (cd Hw) aA fg
theorem uY : ∀ i, ap 12259964326927110866866776217202473468949912977468817343 (acF i) := rb (cd Hw) aA
theorem z3 : ap 12259964326927110866866776217202473468949912977468288831 acD := rl (cx uY) fg
theorem aiV : ap 12259964326927110866866776217202473468949912977468288831 akP := rc (cd z3) (cx uY) fg
theorem Sz : ap 12259964326927110866866776217202473468949912977468288831 acE := rc (cd z3) (cx uY) fg
theorem aiW : ∀ i, ap 12259964326927110866866776217202473468949912977468288831 (an2 i) := rb (cd Sz) (cx uY)
theorem ab6 : ap 12259964326927110866866776217202473468949912977468788031 ab5 := rc (cd Hv) aA fg
theorem ql : ∀ i, ap 12259964326927110866866776217202473468949912977468813119 (NW i) := rb (cd Hv) aA
theorem uV : ap 12259964326927110866866776217202473468949912977468788031 NS := rl (cx ql) fg
theorem ab8 : ap 12259964326927110866866776217202473468949912977468788031 ab7 := rc (cd uV) (cx ql) fg
theorem uW : ap 12259964326927110866866776217202473468949912977468788031 NT := rc (cd uV) (cx ql) fg
theorem Ca : ∀ i, ap 12259964326927110866866776217202473468949912977468788031 (NX i) := rb (cd uW) (cx ql)
theorem acA : ap 12259964326927110866866776217202473468949912977468591423 ab9 := rc (cd uW) (cx Ca) fg
theorem qm : ∀ i, ap 12259964326927110866866776217202473468949912977468788031 (NY i) := rb (cd uW) (cx Ca)
theorem uX : ap 12259964326927110866866776217202473468949912977468591423 NU := rl (cx qm) fg
theorem acC : ap 12259964326927110866866776217202473468949912977468591423 acB := rc (cd uX) (cx qm) fg
theorem Kf : ap 12259964326927110866866776217202473468949912977468591423 NV := rc (cd uX) (cx qm) fg
theorem acH : ∀ i, ap 12259964326927110866866776217202473468949912977468591423 (acG i) := rb (cd Kf) (cx qm)
theorem tu : pd x6 H =
 some ((vb true), H) :=
 (by kernel_rfl)
theorem tz : pi x6 x7 x12 x19 H =
 (aj .other .add x19 (vi 1)).bind fun v8 =>
 gK x6 x7 x12 v8 H :=
 (by kernel_rfl)
theorem tx : pg x6 x7 x12 x19 H =
 ld [.f 0] x7 H fun v10 =>
 (FF di [v10, x19] H).bind fun r11 =>
 (aj .ptr .eql r11.1 (.pointer none)).bind fun v12 =>
 (gV v12 false r11.1).bind fun v13 =>
 (gV v12 false x12).bind fun v14 =>
 (gV v12 false x19).bind fun v15 =>
 fG v12 false  [.i 1 v15] v14 r11.2 fun v16 =>
 (gE v12 false r11.2 (FF fD [v13, (vi 0), v16] r11.2)).bind fun r17 =>
 (aM v12 (vb true) r17.1).bind fun v18 =>
 (gV v18 false x12).bind fun v19 =>
 (gV v18 false x19).bind fun v20 =>
 yX v18 false  [.i 1 v20] v19 fun v21 =>
 (gB v18 false (au v21 r17.2)).bind fun v22 =>
 (gV v18 false r11.1).bind fun v23 =>
 (gE v18 false r17.2 (FF jB [v23] r17.2)).bind fun r24 =>
 bJ (au v21 r24.2) (au v21 r17.2) <|
 (gB v18 false (bI (some .u64) r24.1)).bind fun v25 =>
 (gB v18 false (aj .other .gtr v22 v25)).bind fun v26 =>
 (aM v18 (vb true) v26).bind fun v27 =>
 aw v27
 (some ((vb false), r24.2))
 (pi x6 x7 x12 x19 r24.2) :=
 (pt rfl 0 Sz (bt rfl (j8 [1, 1, 1, 1, 1, 1, 1, 1, 1, 0, 1, 4, 5, 1, 0, 4]) 5 aiW (by kernel_rfl)))
theorem qt : mo x6 H = pd x6 H :=
 (by kernel_rfl)
theorem lI : gK x6 x7 x12 x19 H =
 ep x12 fun v28 =>
 (aj .other .lss x19 v28).bind fun v29 =>
 aw v29
 (pg x6 x7 x12 x19 H)
 (mo x6 H) :=
 pK rfl z3 (pt rfl 0 aiV (by kernel_rfl))
theorem tv : pe x6 x7 x12 x19 H =
 gK x6 x7 x12 x19 H :=
 (bt rfl (j8 [1, 1, 1, 1, 1, 1, 1, 1, 1, 0, 1, 4]) 4 uY (li rfl (j8 [1, 1, 1, 1, 1, 1, 1, 1, 1, 0, 1, 4, 5]) z3 (by kernel_rfl)))
theorem tt : pc x6 x7 x12 H =
 pe x6 x7 x12 (vi 0) H :=
 (pt rfl 0 Hw (pt rfl 0 aiU (by kernel_rfl)))
theorem se : fX x6 x7 x9 x12 x13 x14 H =
 (aj .other .add x14 (vi 1)).bind fun v35 =>
 fW x6 x7 x9 x12 x13 v35 H :=
 (by kernel_rfl)
theorem sk : fZ x6 x7 x9 x12 x13 x14 x16 x17 H =
 (aj .other .add x17 (vi 1)).bind fun v42 =>
 fY x6 x7 x9 x12 x13 x14 x16 v42 H :=
 (by kernel_rfl)
theorem pI : lH x6 x7 x9 x12 x13 x14 x16 x17 H = fZ x6 x7 x9 x12 x13 x14 x16 x17 H :=
 (by kernel_rfl)
theorem sj : nP x6 x7 x9 x12 x13 x14 x16 x17 H =
 ld [.f 0] x7 H fun v44 =>
 (FF dD [v44, (vi 0), x17] H).bind fun r45 =>
 (j2 none 0 r45.1).bind fun v46 =>
 ad [.f 1] x16 fun v47 =>
 (au v47 r45.2).bind fun v48 =>
 bJ (au v47 H) (au v47 r45.2) <|
 (aj .other .neq v46 v48).bind fun v49 =>
 aw v49
 (lH x6 x7 x9 x12 x13 x14 x16 x17 r45.2)
 (ld [.f 0] x7 r45.2 fun v50 =>
 (FF di [v50, x17] r45.2).bind fun r51 =>
 (aj .ptr .eql r51.1 (.pointer none)).bind fun v52 =>
 (gV v52 false r51.1).bind fun v53 =>
 (gV v52 false x12).bind fun v54 =>
 (gV v52 false x17).bind fun v55 =>
 fG v52 false  [.i 1 v55] v54 r51.2 fun v56 =>
 (gE v52 false r51.2 (FF fD [v53, (vi 0), v56] r51.2)).bind fun r57 =>
 (gB v52 false (pM .not r57.1)).bind fun v58 =>
 (aM v52 (vb true) v58).bind fun v59 =>
 (gV v59 false r51.1).bind fun v60 =>
 (gV v59 false x12).bind fun v61 =>
 (gV v59 false x17).bind fun v62 =>
 fG v59 false  [.i 1 v62] v61 r57.2 fun v63 =>
 (gE v59 false r57.2 (FF km [v60, (vi 0), v63] r57.2)).bind fun r64 =>
 yX v59 false  [.f 1] x16 fun v65 =>
 (gB v59 false (au v65 r64.2)).bind fun v66 =>
 bJ (au v65 r57.2) (au v65 r64.2) <|
 yX v59 false  [.f 2] x16 fun v67 =>
 (gB v59 false (au v67 r64.2)).bind fun v68 =>
 bJ (au v67 r57.2) (au v67 r64.2) <|
 yX v59 false  [.f 3] x16 fun v69 =>
 (gB v59 false (au v69 r64.2)).bind fun v70 =>
 bJ (au v69 r57.2) (au v69 r64.2) <|
 (ue (yv v59) false (iz [(0, 1), (1, 1), (2, 1)] [(vi 0), (vi 0), (vi 0)] [(0, v66), (1, v68), (2, v70)] some) (some undef)).bind fun v71 =>
 (gB v59 false (aj (.flat 3) .neq r64.1 v71)).bind fun v72 =>
 (aM v59 (vb true) v72).bind fun v73 =>
 aw v73
 (some ((vb false), r64.2))
 (ld [.i 1 x17] x12 r64.2 fun v74 =>
 (aj .other .add v74 (vw 1)).bind fun v75 =>
 st 1 [.i 1 x17] x12 v75 r64.2 fun H76 =>
 fZ x6 x7 x9 x12 x13 x14 x16 x17 H76)) :=
 (pt rfl 0 Kf (bt rfl (j8 [1, 1, 1, 1, 1, 1, 1, 1, 0, 1, 4, 5, 1, 0, 4, 1, 1, 1, 1, 1, 4, 5, 1, 0, 4]) 3 acH (by kernel_rfl)))
theorem pH : lG x6 x7 x9 x12 x13 x14 H = fX x6 x7 x9 x12 x13 x14 H :=
 (by kernel_rfl)
theorem ky : fY x6 x7 x9 x12 x13 x14 x16 x17 H =
 ep x12 fun v77 =>
 (aj .other .lss x17 v77).bind fun v78 =>
 aw v78
 (nP x6 x7 x9 x12 x13 x14 x16 x17 H)
 (lG x6 x7 x9 x12 x13 x14 H) :=
 pK rfl uX (pt rfl 0 acC (by kernel_rfl))
theorem sg : nO x6 x7 x9 x12 x13 x14 x16 x17 H =
 fY x6 x7 x9 x12 x13 x14 x16 x17 H :=
 (bt rfl (j8 [1, 1, 1, 1, 1, 1, 1, 1, 0, 1, 4, 5, 1, 0, 4, 1, 1, 1, 1, 1, 4]) 2 qm (li rfl (j8 [1, 1, 1, 1, 1, 1, 1, 1, 0, 1, 4, 5, 1, 0, 4, 1, 1, 1, 1, 1, 4, 5]) uX (by kernel_rfl)))
theorem pG : lF x6 x7 x9 x12 x13 x14 H = fX x6 x7 x9 x12 x13 x14 H :=
 (by kernel_rfl)
theorem sd : nN x6 x7 x9 x12 x13 x14 H =
 ldN 7 [.i 7 x14] x13 H fun v79 =>
 aW [(vi 0), (vi 0), (vi 0), (vi 0), (.slice none 0 0), (vi 0), (vw 0)] H fun v80 H81 =>
 (dc 7 v80 v79 H81).bind fun H82 =>
 ld [.f 1] v80 H82 fun v83 =>
 (aj .other .lss v83 (vi 0)).bind fun v84 =>
 fG v84 false  [.f 1] v80 H82 fun v85 =>
 (gB v84 false (aj .other .gtr v85 (vi 3))).bind fun v86 =>
 (aM v84 (vb true) v86).bind fun v87 =>
 fG v87 false  [.f 2] v80 H82 fun v88 =>
 (gB v87 false (aj .other .lss v88 (vi 0))).bind fun v89 =>
 (aM v87 (vb true) v89).bind fun v90 =>
 fG v90 false  [.f 2] v80 H82 fun v91 =>
 (gV v90 false x9).bind fun v92 =>
 fG v90 false  [.f 1] v80 H82 fun v93 =>
 fG v90 false  [.i 1 v93] v92 H82 fun v94 =>
 (ue (yv v90) false (ep v94 some) (some undef)).bind fun v95 =>
 (gB v90 false (aj .other .geq v91 v95)).bind fun v96 =>
 (aM v90 (vb true) v96).bind fun v97 =>
 aw v97
 (some ((vb false), H82))
 (ld [.f 3, .f 0] v80 H82 fun v98 =>
 (aj .other .neq v98 (vi 0)).bind fun v99 =>
 aw v99
 (lF x6 x7 x9 x12 x13 x14 H82)
 (ld [.f 1] v80 H82 fun v100 =>
 ld [.i 1 v100] x9 H82 fun v101 =>
 ld [.f 2] v80 H82 fun v102 =>
 ldN 4 [.i 4 v102] v101 H82 fun v103 =>
 aW [(vi 0), (vi 0), (vi 0), (vi 0)] H82 fun v104 H105 =>
 (dc 4 v104 v103 H105).bind fun H106 =>
 nO x6 x7 x9 x12 x13 x14 v104 (vi 0) H106)) :=
 (pt rfl 0 uW (bt rfl (j8 [1, 1, 1, 1, 1, 1, 1, 1, 0, 1, 4, 5, 1, 0, 4]) 1 Ca (pt rfl 4 acA (by kernel_rfl))))
theorem pF : lE x6 x7 x12 H = pc x6 x7 x12 H :=
 (by kernel_rfl)
theorem kw : fW x6 x7 x9 x12 x13 x14 H =
 ep x13 fun v107 =>
 (aj .other .lss x14 v107).bind fun v108 =>
 aw v108
 (nN x6 x7 x9 x12 x13 x14 H)
 (lE x6 x7 x12 H) :=
 pK rfl uV (pt rfl 0 ab8 (by kernel_rfl))
theorem sc : nM x6 x7 x9 x12 x13 x14 H =
 fW x6 x7 x9 x12 x13 x14 H :=
 (bt rfl (j8 [1, 1, 1, 1, 1, 1, 1, 1, 0, 1, 4]) 0 ql (li rfl (j8 [1, 1, 1, 1, 1, 1, 1, 1, 0, 1, 4, 5]) uV (by kernel_rfl)))
theorem tr : j9 x6 x7 x9 x12 x13 H =
 nM x6 x7 x9 x12 x13 (vi 0) H :=
 (pt rfl 0 Hv (pt rfl 0 ab6 (by kernel_rfl)))
noncomputable def HG : OV := aT PP GG FF (j8 []) (ls [x0, x1, x2] 180) H mO bC mO
theorem y5 {r : Value × AH} (h : (
 aW (Value.cells x0).toList H fun v109 H110 =>
 (aC 5 v109 H110).bind fun v111 =>
 (FF tG [v111, (vi 4)] H110).bind fun r112 =>
 (ak r112.1 0).bind fun v113 =>
 (ak r112.1 1).bind fun v114 =>
 aW [(.pointer none), (.pointer none)] r112.2 fun v115 H116 =>
 (dc 2 v115 v113 H116).bind fun H117 =>
 (FF kJ [x1, (vi 20)] H117).bind fun r118 =>
 (FF qA [] r118.2).bind fun r119 =>
 (pM .not r119.1).bind fun v120 =>
 (gV v120 false v114).bind fun v121 =>
 (gB v120 false (pM .not v121)).bind fun v122 =>
 (aM v120 (vb true) v122).bind fun v123 =>
 aw v123
 (some ((vb false), r119.2))
 ((aC 2 v115 r119.2).bind fun v124 =>
 (FF SV [x2, (vi 9), (vi 300)] r119.2).bind fun r125 =>
 bJ (aC 2 v115 r125.2) (aC 2 v115 r119.2) <|
 (FF SU [v124, r118.1, r125.1, (vi 2400), (vb false)] r125.2).bind fun r126 =>
 (ak r126.1 0).bind fun v127 =>
 (ak r126.1 1).bind fun v128 =>
 (pM .not v128).bind fun v129 =>
 (gV v129 false v127).bind fun v130 =>
 (gB v129 false (pM .not v130)).bind fun v131 =>
 (aM v129 (vb true) v131).bind fun v132 =>
 aw v132
 (some ((vb false), r126.2))
 (ld [.f 0] v115 r126.2 fun v133 =>
 (FF hZ [v133] r126.2).bind fun r134 =>
 (kB [(vw 0)] 1 8 r134.1 r134.1 r134.2).bind fun r135 =>
 ld [.f 0] v115 r135.2 fun v136 =>
 (FF adC [v136] r135.2).bind fun r137 =>
 j9 (vb false) v115 r118.1 r135.1 r137.1 r137.2))) = some r) : FF iL [x0, x1, x2] H = some r :=
 fo (t := HG x0 x1 x2 H) Tryz.func9 (by kernel_rfl) (Eq.trans (pt rfl 7 aiT (by kernel_rfl)) h)
noncomputable def gg (p : List Nat) : Code := Code.sub (bP Tryz.f33) p
noncomputable def gD : KK := e6 PP (Tryz.f33).results.toList
noncomputable def aaS : KK := CQ (gg [1, 1, 1, 1, 1]) gD bC gD
noncomputable def acW : OV := aaS (ls [u, x1, x2, x3, x4, x5, u, u, u, u, x10, x11, x12, x13, x14, x15] 177) H
noncomputable def Nz : KK := CQ (gg [1, 1, 1, 1, 1, 1]) gD bC gD
noncomputable def aaP : KK := dn 12554203470773361527671578846415332832204710888928068998141 Nz
noncomputable def N4 : OV := Nz (ls [u, x1, u, u, u, u, u, u, u, u, x10, x11, u, x13, x14] 178) H
noncomputable def NA : KK := CQ (gg [1, 1, 1, 1, 1, 1, 1]) gD bC gD
noncomputable def aaQ : KK := dn 12554203470773361527671578846415332832204710888928069022719 NA
noncomputable def acX : OV := NA (ls [u, u, u, u, u, u, u, u, u, u, x10, x11] 181) H
noncomputable def aaU : KK := CQ (gg [1, 1, 1, 1, 1, 1, 0, 1]) aaQ bC gD
noncomputable def acY : OV := aaU (ls [u, x1, u, u, u, u, u, u, u, u, x10, x11, u, x13, x14, u, u, u, u, u, u, u, x22] 170) H
noncomputable def ND : KX := BX 2 aaQ bC
noncomputable def Hr : KX := mJ 12554203470773361527671578846415332832204710888928069022719 ND
noncomputable def NB : KK := sC (gg [1, 1, 1, 1, 1, 1, 0, 1, 4, 5]) Hr gD
noncomputable def aaR : KK := dn 12554203470773361527671578846415332832204710888928064803837 NB
noncomputable def HJ : OV := NB (ls [u, x1, u, u, u, u, u, u, u, u, x10, x11, u, x13, x14, u, u, u, u, u, u, u, x22] 170) H
noncomputable def aaW : KK := CQ (gg [1, 1, 1, 1, 1, 1, 0, 1, 4, 5, 1]) aaR Hr gD
noncomputable def acZ : OV := aaW (ls [u, x1, u, u, u, u, u, u, u, u, x10, x11, u, x13, x14, u, u, u, u, u, u, u, x22] 170) H
noncomputable def NC : KK := CQ (gg [1, 1, 1, 1, 1, 1, 0, 1, 4, 5, 1, 1]) aaR Hr gD
noncomputable def al1 : KK := dn 12554203470773361527671578846415332832204710888928064803837 NC
noncomputable def Oc : OV := NC (ls [u, x1, u, u, u, u, u, u, u, u, x10, x11, u, x13, x14, u, u, u, u, u, u, u, x22] 170) H
noncomputable def al2 : KX := BX 3 al1 Hr
noncomputable def Kw : OV := ND 2 (ls [u, u, u, u, u, u, u, u, u, u, x10, x11] 181) H
noncomputable def Sb : KK := CQ (gg [1, 1, 1, 1, 1, 0, 1]) aaP bC gD
noncomputable def SH : OV := Sb (ls [u, x1, x2, x3, x4, x5, u, u, u, u, x10, x11, x12, x13, x14, x15, x16] 176) H
noncomputable def Ho : KX := BX 0 aaP bC
noncomputable def zZ : KX := mJ 12554203470773361527671578846415332832204710888928068998141 Ho
noncomputable def Hm : KK := sC (gg [1, 1, 1, 1, 1, 0, 1, 4, 5]) zZ gD
noncomputable def Sa : KK := dn 12554203470773361527671578846415332832204710888928068895681 Hm
noncomputable def z4 : OV := Hm (ls [u, x1, x2, x3, x4, x5, u, u, u, u, x10, x11, x12, x13, x14, x15, x16] 176) H
noncomputable def Sc : KK := CQ (gg [1, 1, 1, 1, 1, 0, 1, 4, 5, 1]) Sa zZ gD
noncomputable def SJ : OV := Sc (ls [u, x1, x2, x3, x4, x5, u, u, u, u, x10, x11, x12, x13, x14, x15, x16] 176) H
noncomputable def Hn : KK := CQ (gg [1, 1, 1, 1, 1, 0, 1, 4, 5, 1, 1]) Sa zZ gD
noncomputable def uQ : KK := dn 12554203470773361527671578846415332832204710888928068895681 Hn
noncomputable def ve : OV := Hn (ls [u, x1, x2, x3, x4, x5, u, u, u, u, x10, x11, x12, x13, x14, x15, x16] 176) H
noncomputable def Hq : KX := BX 1 uQ zZ
noncomputable def z0 : KX := mJ 12554203470773361527671578846415332832204710888928068895681 Hq
noncomputable def Sd : KK := CQ (gg [1, 1, 1, 1, 1, 0, 1, 4, 5, 1, 0, 4, 1]) uQ z0 gD
noncomputable def SK : OV := Sd (ls [u, x1, x2, x3, x4, x5, u, u, u, u, x10, x11, x12, x13, x14, x15, x16, x17] 175) H
noncomputable def Se : KK := CQ (gg [1, 1, 1, 1, 1, 0, 1, 4, 5, 1, 0, 4, 1, 1]) uQ z0 gD
noncomputable def vf : OV := Se (ls [u, x1, x2, x3, x4, x5, u, u, u, u, x10, x11, x12, x13, x14, x15, x16, x17] 175) H
noncomputable def Sf : KK := CQ (gg [1, 1, 1, 1, 1, 0, 1, 4, 5, 1, 0, 4, 1, 1, 1]) uQ z0 gD
noncomputable def SL : OV := Sf (ls [u, x1, x2, x3, x4, x5, u, u, u, u, x10, x11, x12, x13, x14, x15, x16, x17] 175) H
noncomputable def Sg : KK := CQ (gg [1, 1, 1, 1, 1, 0, 1, 4, 5, 1, 0, 4, 1, 1, 1, 1]) uQ z0 gD
noncomputable def z5 : OV := Sg (ls [u, x1, x2, x3, x4, x5, u, u, u, u, x10, x11, x12, x13, x14, x15, x16, x17] 175) H
noncomputable def rR : OV := Hq 1 (ls [u, x1, x2, x3, x4, x5, u, u, u, u, x10, x11, x12, x13, x14, x15, x16] 176) H
noncomputable def E4 : OV := Ho 0 (ls [u, x1, u, u, u, u, u, u, u, u, x10, x11, u, x13, x14] 178) H
theorem dl : ap 12554203470773361527671578846415332832204710888928069022719 gD := rf
theorem aaT : ap 12554203470773361527671578846415332832204710888928068961217 aaS := rc dl aA dl
theorem B2 : ap 12554203470773361527671578846415332832204710888928068998141 Nz := rc dl aA dl
theorem B3 : ap 12554203470773361527671578846415332832204710888928069022719 NA := rc dl aA dl
theorem aaV : ap 12554203470773361527671578846415332832204710888928064803837 aaU := rc (cd B3) aA dl
theorem qh : ∀ i, ap 12554203470773361527671578846415332832204710888928069022719 (ND i) := rb (cd B3) aA
theorem uR : ap 12554203470773361527671578846415332832204710888928064803837 NB := rl (cx qh) dl
theorem aaX : ap 12554203470773361527671578846415332832204710888928064803837 aaW := rc (cd uR) (cx qh) dl
theorem Kd : ap 12554203470773361527671578846415332832204710888928064803837 NC := rc (cd uR) (cx qh) dl
theorem aaY : ∀ i, ap 12554203470773361527671578846415332832204710888928064803837 (al2 i) := rb (cd Kd) (cx qh)
theorem We : ap 12554203470773361527671578846415332832204710888928068895681 Sb := rc (cd B2) aA dl
theorem nE : ∀ i, ap 12554203470773361527671578846415332832204710888928068998141 (Ho i) := rb (cd B2) aA
theorem rP : ap 12554203470773361527671578846415332832204710888928068895681 Hm := rl (cx nE) dl
theorem Wf : ap 12554203470773361527671578846415332832204710888928068895681 Sc := rc (cd rP) (cx nE) dl
theorem kS : ap 12554203470773361527671578846415332832204710888928068895681 Hn := rc (cd rP) (cx nE) dl
theorem nF : ∀ i, ap 12554203470773361527671578846415332832204710888928068895681 (Hq i) := rb (cd kS) (cx nE)
theorem Wg : ap 12554203470773361527671578846415332832204710888928068764609 Sd := rc (cd kS) (cx nF) dl
theorem Wh : ap 12554203470773361527671578846415332832204710888928068764609 Se := rc (cd kS) (cx nF) dl
theorem Wi : ap 12554203470773361527671578846415332832204710888928068764609 Sf := rc (cd kS) (cx nF) dl
theorem Wj : ap 12554203470773361527671578846415332832204710888928068764609 Sg := rc (cd kS) (cx nF) dl
theorem WN : acX x10 x11 H =
 some (Value.tuple #[(vb true), (vb true)], H) :=
 (by kernel_rfl)
theorem WQ : Oc x1 x10 x11 x13 x14 x22 H =
 (aj .other .add x22 (vi 1)).bind fun v8 =>
 HJ x1 x10 x11 x13 x14 v8 H :=
 (by kernel_rfl)
theorem WP : acZ x1 x10 x11 x13 x14 x22 H =
 ld [.a 4 1 x22] x13 H fun v10 =>
 (aj .ptr .neq v10 (.pointer none)).bind fun v11 =>
 (gV v11 false x22).bind fun v12 =>
 fG v11 false  [.a 4 1 v12] x14 H fun v13 =>
 (gV v11 false x1).bind fun v14 =>
 (gV v11 false x22).bind fun v15 =>
 fG v11 false  [.i 1 v15] v14 H fun v16 =>
 (ue (yv v11) false (ep v16 some) (some undef)).bind fun v17 =>
 (gB v11 false (aj .other .lss v13 v17)).bind fun v18 =>
 (aM v11 (vb true) v18).bind fun v19 =>
 aw v19
 (some (Value.tuple #[(vb false), (vb true)], H))
 (Oc x1 x10 x11 x13 x14 x22 H) :=
 (pt rfl 0 Kd (bt rfl (gg [1, 1, 1, 1, 1, 1, 0, 1, 4, 5, 1, 0, 4]) 3 aaY (by kernel_rfl)))
theorem Kx : Kw x10 x11 H = acX x10 x11 H :=
 (by kernel_rfl)
theorem E5 : HJ x1 x10 x11 x13 x14 x22 H =
 (aj .other .lss x22 (vi 4)).bind fun v20 =>
 (gV v20 true x22).bind fun v21 =>
 (gV v20 true x1).bind fun v22 =>
 (ue (yv v20) true (ep v22 some) (some undef)).bind fun v23 =>
 (gB v20 true (aj .other .lss v21 v23)).bind fun v24 =>
 (aM v20 v24 (vb false)).bind fun v25 =>
 aw v25
 (acZ x1 x10 x11 x13 x14 x22 H)
 (Kw x10 x11 H) :=
 pK rfl uR (pt rfl 0 aaX (by kernel_rfl))
theorem WO : acY x1 x10 x11 x13 x14 x22 H =
 HJ x1 x10 x11 x13 x14 x22 H :=
 (bt rfl (gg [1, 1, 1, 1, 1, 1, 0, 1, 4]) 2 qh (li rfl (gg [1, 1, 1, 1, 1, 1, 0, 1, 4, 5]) uR (by kernel_rfl)))
theorem WM : N4 x1 x10 x11 x13 x14 H =
 acY x1 x10 x11 x13 x14 (vi 0) H :=
 (pt rfl 0 B3 (pt rfl 0 aaV (by kernel_rfl)))
theorem N7 : ve x1 x2 x3 x4 x5 x10 x11 x12 x13 x14 x15 x16 H =
 (aj .other .add x16 (vi 1)).bind fun v31 =>
 z4 x1 x2 x3 x4 x5 x10 x11 x12 x13 x14 x15 v31 H :=
 (by kernel_rfl)
theorem Oa : z5 x1 x2 x3 x4 x5 x10 x11 x12 x13 x14 x15 x16 x17 H =
 ld [.a 4 1 x17] x12 H fun v37 =>
 (FF xm [v37, x15] H).bind fun r38 =>
 (ak r38.1 0).bind fun v39 =>
 (ak r38.1 1).bind fun v40 =>
 aW [(vi 0), (.slice none 0 0), (vi 0), (vw 0)] r38.2 fun v41 H42 =>
 (dc 4 v41 v39 H42).bind fun H43 =>
 ld [.a 4 1 x17] x13 H43 fun v44 =>
 (FF dE [v44, x15] H43).bind fun r45 =>
 (aj .bool .neq v40 r45.1).bind fun v46 =>
 (gB v46 false (aC 4 v41 r45.2)).bind fun v47 =>
 (gV v46 false x17).bind fun v48 =>
 fG v46 false  [.a 4 1 v48] x13 r45.2 fun v49 =>
 (gV v46 false r45.1).bind fun v50 =>
 (gE v46 false r45.2 (FF tH [v49, v50] r45.2)).bind fun r51 =>
 bJ (aC 4 v41 r51.2) (aC 4 v41 r45.2) <|
 (gE v46 false r51.2 (FF tF [v47, r51.1] r51.2)).bind fun r52 =>
 (gB v46 false (pM .not r52.1)).bind fun v53 =>
 (aM v46 (vb true) v53).bind fun v54 =>
 fG v54 false  [.f 0] x5 r52.2 fun v55 =>
 fG v54 false  [.n, .f 0] v55 r52.2 fun v56 =>
 (gE v54 false r52.2 (FF gH [v56] r52.2)).bind fun r57 =>
 yX v54 false  [.f 1] x5 fun v58 =>
 (gB v54 false (au v58 r57.2)).bind fun v59 =>
 bJ (au v58 r52.2) (au v58 r57.2) <|
 yX v54 false  [.n, .f 5] v59 fun v60 =>
 (gB v54 false (au v60 r57.2)).bind fun v61 =>
 bJ (au v60 r52.2) (au v60 r57.2) <|
 yX v54 false  [.n, .f 2] v61 fun v62 =>
 (gB v54 false (au v62 r57.2)).bind fun v63 =>
 bJ (au v62 r52.2) (au v62 r57.2) <|
 (ue (yv v54) false (ep v63 some) (some undef)).bind fun v64 =>
 bJ (ai2 v63) (ai2 v63) <|
 (gB v54 false (aj .other .neq r57.1 v64)).bind fun v65 =>
 (aM v54 (vb true) v65).bind fun v66 =>
 aw v66
 (some (Value.tuple #[(vb false), (vb false)], r57.2))
 ((aj .other .add x15 (vi 1)).bind fun v67 =>
 aw r45.1
 (st 1 [.a 4 1 x17] x13 (.pointer none) r57.2 fun H68 =>
 ve x1 x2 x3 x4 x5 x10 x11 x12 x13 x14 v67 x16 H68)
 (ve x1 x2 x3 x4 x5 x10 x11 x12 x13 x14 v67 x16 r57.2)) :=
 (by kernel_rfl)
theorem Cp : SL x1 x2 x3 x4 x5 x10 x11 x12 x13 x14 x15 x16 x17 H =
 ld [.a 4 1 x17] x13 H fun v69 =>
 (aj .ptr .eql v69 (.pointer none)).bind fun v70 =>
 aw v70
 (ld [.i 1 x17] x1 H fun v71 =>
 ld [.a 4 1 x17] x14 H fun v72 =>
 ldN 4 [.i 4 v72] v71 H fun v73 =>
 aW [(vi 0), (vi 0), (vi 0), (vi 0)] H fun v74 H75 =>
 (dc 4 v74 v73 H75).bind fun H76 =>
 (aC 2 x5 H76).bind fun v77 =>
 ld [.a 4 1 x17] x14 H76 fun v78 =>
 (FF ju [v77, x17, v78] H76).bind fun r79 =>
 ld [.f 0] x5 r79.2 fun v80 =>
 (aC 4 v74 r79.2).bind fun v81 =>
 (FF xn [v80, x17, v81] r79.2).bind fun r82 =>
 ad [.f 1] x5 fun v83 =>
 (au v83 r82.2).bind fun v84 =>
 bJ (au v83 r79.2) (au v83 r82.2) <|
 (aC 4 v74 r82.2).bind fun v85 =>
 bJ (aC 4 v74 r79.2) (aC 4 v74 r82.2) <|
 (FF mX [v84, x17, v85] r82.2).bind fun r86 =>
 st 1 [.a 4 1 x17] x12 r82.1 r86.2 fun H87 =>
 st 1 [.a 4 1 x17] x13 r86.1 H87 fun H88 =>
 ld [.a 4 1 x17] x14 H88 fun v89 =>
 (aj .other .add v89 (vi 1)).bind fun v90 =>
 st 1 [.a 4 1 x17] x14 v90 H88 fun H91 =>
 ld [.a 4 1 x17] x12 H91 fun v92 =>
 (aj .ptr .eql v92 (.pointer none)).bind fun v93 =>
 aw v93
 (some (Value.tuple #[(vb false), (vb false)], H91))
 (z5 x1 x2 x3 x4 x5 x10 x11 x12 x13 x14 x15 x16 x17 H91))
 (z5 x1 x2 x3 x4 x5 x10 x11 x12 x13 x14 x15 x16 x17 H) :=
 (pt rfl 0 Wj (by kernel_rfl))
theorem HI : rR x1 x2 x3 x4 x5 x10 x11 x12 x13 x14 x15 x16 H = ve x1 x2 x3 x4 x5 x10 x11 x12 x13 x14 x15 x16 H :=
 (by kernel_rfl)
theorem N9 : vf x1 x2 x3 x4 x5 x10 x11 x12 x13 x14 x15 x16 x17 H =
 ld [.a 4 1 x17] x13 H fun v94 =>
 (aj .ptr .eql v94 (.pointer none)).bind fun v95 =>
 (gV v95 true x17).bind fun v96 =>
 (gV v95 true x1).bind fun v97 =>
 (ue (yv v95) true (ep v97 some) (some undef)).bind fun v98 =>
 (gB v95 true (aj .other .geq v96 v98)).bind fun v99 =>
 (gV v95 true v99).bind fun v100 =>
 (gV v100 false x17).bind fun v101 =>
 fG v100 false  [.a 4 1 v101] x14 H fun v102 =>
 (gV v100 false x1).bind fun v103 =>
 (gV v100 false x17).bind fun v104 =>
 fG v100 false  [.i 1 v104] v103 H fun v105 =>
 (ue (yv v100) false (ep v105 some) (some undef)).bind fun v106 =>
 (gB v100 false (aj .other .geq v102 v106)).bind fun v107 =>
 (gB v95 true (aM v100 (vb true) v107)).bind fun v108 =>
 (aM v95 v108 (vb false)).bind fun v109 =>
 aw v109
 (rR x1 x2 x3 x4 x5 x10 x11 x12 x13 x14 x15 x16 H)
 (SL x1 x2 x3 x4 x5 x10 x11 x12 x13 x14 x15 x16 x17 H) :=
 (pt rfl 0 Wi (by kernel_rfl))
theorem N8 : SK x1 x2 x3 x4 x5 x10 x11 x12 x13 x14 x15 x16 x17 H =
 ep x2 fun v110 =>
 (aj .other .lss x16 v110).bind fun v111 =>
 aw v111
 (ld [.i 1 x16] x2 H fun v112 =>
 (FF bn [v112, (vi 9)] H).bind fun r113 =>
 (aj .other .eql r113.1 (vi 8)).bind fun v114 =>
 (gV v114 true x4).bind fun v115 =>
 (aM v114 v115 (vb false)).bind fun v116 =>
 aw v116
 ((aC 2 x5 r113.2).bind fun v117 =>
 ld [.i 1 x16] x2 r113.2 fun v118 =>
 (aj .other .quo v118 (vi 9)).bind fun v119 =>
 (aj .other .add v119 x16).bind fun v120 =>
 (FF zg [v117, v120] r113.2).bind fun r121 =>
 (pM .not r121.1).bind fun v122 =>
 aw v122
 (some (Value.tuple #[(vb false), (vb false)], r121.2))
 (rR x1 x2 x3 x4 x5 x10 x11 x12 x13 x14 x15 x16 r121.2))
 ((aj .other .rem r113.1 (vi 4)).bind fun v123 =>
 vf x1 x2 x3 x4 x5 x10 x11 x12 x13 x14 x15 x16 v123 r113.2))
 (vf x1 x2 x3 x4 x5 x10 x11 x12 x13 x14 x15 x16 x17 H) :=
 (pt rfl 0 Wh (by kernel_rfl))
theorem N6 : SJ x1 x2 x3 x4 x5 x10 x11 x12 x13 x14 x15 x16 H =
 (aj .other .rem x16 (vi 4)).bind fun v124 =>
 SK x1 x2 x3 x4 x5 x10 x11 x12 x13 x14 x15 x16 v124 H :=
 (pt rfl 0 kS (bt rfl (gg [1, 1, 1, 1, 1, 0, 1, 4, 5, 1, 0, 4]) 1 nF (pt rfl 0 Wg (by kernel_rfl))))
theorem HH : E4 x1 x10 x11 x13 x14 H = N4 x1 x10 x11 x13 x14 H :=
 (by kernel_rfl)
theorem Co : z4 x1 x2 x3 x4 x5 x10 x11 x12 x13 x14 x15 x16 H =
 (aj .other .lss x16 x3).bind fun v125 =>
 aw v125
 (SJ x1 x2 x3 x4 x5 x10 x11 x12 x13 x14 x15 x16 H)
 (E4 x1 x10 x11 x13 x14 H) :=
 pK rfl rP (pt rfl 0 Wf (by kernel_rfl))
theorem N5 : SH x1 x2 x3 x4 x5 x10 x11 x12 x13 x14 x15 x16 H =
 z4 x1 x2 x3 x4 x5 x10 x11 x12 x13 x14 x15 x16 H :=
 (bt rfl (gg [1, 1, 1, 1, 1, 0, 1, 4]) 0 nE (li rfl (gg [1, 1, 1, 1, 1, 0, 1, 4, 5]) rP (by kernel_rfl)))
theorem WL : acW x1 x2 x3 x4 x5 x10 x11 x12 x13 x14 x15 H =
 SH x1 x2 x3 x4 x5 x10 x11 x12 x13 x14 x15 (vi 0) H :=
 (pt rfl 0 B2 (pt rfl 0 We (by kernel_rfl)))
noncomputable def lTu : OV := aT PP GG FF (gg []) (ls [x0, x1, x2, x3, x4] 188) H gD bC gD
theorem al8 {r : Value × AH} (h : (
 aW (Value.cells x0).toList H fun v126 H127 =>
 aW [(.pointer none), (.pointer none), (.pointer none), (.pointer none)] H127 fun v128 H129 =>
 aW [(.pointer none), (.pointer none), (.pointer none), (.pointer none)] H129 fun v130 H131 =>
 aW [(vi 0), (vi 0), (vi 0), (vi 0)] H131 fun v132 H133 =>
 acW x1 x2 x3 x4 v126 (vb false) (vb false) v128 v130 v132 (vi 0) H133) = some r) : FF SU [x0, x1, x2, x3, x4] H = some r :=
 fo (t := lTu x0 x1 x2 x3 x4 H) Tryz.func33 (by kernel_rfl) (Eq.trans (pt rfl 4 aaT (by kernel_rfl)) h)
noncomputable def pa (p : List Nat) : Code := Code.sub (bP Tryz.f34) p
noncomputable def nG : KK := e6 PP (Tryz.f34).results.toList
noncomputable def aa1 : KK := CQ (pa [1, 1]) nG bC nG
noncomputable def sP : OV := aa1 (ls [x0, x1, u, u, x4, x5] 50) H
noncomputable def NF : KK := CQ (pa [1, 1, 1]) nG bC nG
noncomputable def aaZ : KK := dn 72057594037927887 NF
noncomputable def sQ : OV := NF (ls [u, u, u, u, x4, x5] 50) H
noncomputable def aa3 : KK := CQ (pa [1, 1, 0, 1]) aaZ bC nG
noncomputable def sR : OV := aa3 (ls [x0, x1, u, u, x4, x5, x6] 49) H
noncomputable def NI : KX := BX 0 aaZ bC
noncomputable def Ht : KX := mJ 72057594037927887 NI
noncomputable def NG : KK := sC (pa [1, 1, 0, 1, 4, 5]) Ht nG
noncomputable def aa0 : KK := dn 72057594037927820 NG
noncomputable def jL : OV := NG (ls [x0, x1, u, u, x4, x5, x6] 49) H
noncomputable def aa5 : KK := CQ (pa [1, 1, 0, 1, 4, 5, 1]) aa0 Ht nG
noncomputable def sS : OV := aa5 (ls [x0, x1, u, u, x4, x5, x6] 49) H
noncomputable def NH : KK := CQ (pa [1, 1, 0, 1, 4, 5, 1, 1]) aa0 Ht nG
noncomputable def NE : KK := dn 72057594037927820 NH
noncomputable def sT : OV := NH (ls [x0, x1, u, u, x4, x5, x6] 49) H
noncomputable def aa9 : KX := BX 1 NE Ht
noncomputable def abA : KX := mJ 72057594037927820 aa9
noncomputable def aa7 : KK := CQ (pa [1, 1, 0, 1, 4, 5, 1, 0, 4, 1, 1]) NE abA nG
noncomputable def sU : OV := aa7 (ls [x0, x1, u, u, x4, x5, x6, x7] 48) H
noncomputable def Sh : KK := CQ (pa [1, 1, 0, 1, 4, 5, 1, 0, 4, 1, 1, 1]) NE abA nG
noncomputable def iG : OV := Sh (ls [x0, x1, u, u, x4, x5, x6, x7] 48) H
noncomputable def gL : OV := NI 0 (ls [u, u, u, u, x4, x5] 50) H
theorem jJ : ap 72057594037927919 nG := rf
theorem aa2 : ap 72057594037927884 aa1 := rc jJ aA jJ
theorem B4 : ap 72057594037927887 NF := rc jJ aA jJ
theorem aa4 : ap 72057594037927820 aa3 := rc (cd B4) aA jJ
theorem qi : ∀ i, ap 72057594037927887 (NI i) := rb (cd B4) aA
theorem uS : ap 72057594037927820 NG := rl (cx qi) jJ
theorem aa6 : ap 72057594037927820 aa5 := rc (cd uS) (cx qi) jJ
theorem uT : ap 72057594037927820 NH := rc (cd uS) (cx qi) jJ
theorem B5 : ∀ i, ap 72057594037927820 (aa9 i) := rb (cd uT) (cx qi)
theorem aa8 : ap 72057594037927692 aa7 := rc (cd uT) (cx B5) jJ
theorem Wl : ap 72057594037927692 Sh := rc (cd uT) (cx B5) jJ
theorem nQ : sQ x4 x5 H =
 some (x5, H) :=
 (by kernel_rfl)
theorem w8 : sT x0 x1 x4 x5 x6 H =
 (aj .other .add x6 (vi 1)).bind fun v7 =>
 jL x0 x1 x4 x5 v7 H :=
 (by kernel_rfl)
theorem vc : iG x0 x1 x4 x5 x6 x7 H =
 st 1 [.f 3] x7 x6 H fun H11 =>
 (aj .other .rem x6 (vi 4)).bind fun v12 =>
 (aj .other .rem x6 (vi 4)).bind fun v13 =>
 ld [.i 1 v13] x5 H11 fun v14 =>
 (aC 4 x7 H11).bind fun v15 =>
 ze 1 4 [(vi 0), (vi 0), (vi 0), (vi 0)] [(0, v15)] H11 fun v16 H17 =>
 (dN 4 32 v14 v16 H17).bind fun r18 =>
 st 1 [.i 1 v12] x5 r18.1 r18.2 fun H19 =>
 sT x0 x1 x4 x5 x6 H19 :=
 (by kernel_rfl)
theorem w9 : sU x0 x1 x4 x5 x6 x7 H =
 ld [.i 4 x6, .f 2] x0 H fun v20 =>
 (FF bn [v20, (vi 5)] H).bind fun r21 =>
 (aj .other .gtr r21.1 (vi 0)).bind fun v22 =>
 aw v22
 (ld [.i 4 x6, .f 2] x0 r21.2 fun v23 =>
 (FF bn [v23, (vi 9)] r21.2).bind fun r24 =>
 (aj .other .add (vi 1) r24.1).bind fun v25 =>
 st 1 [.f 2] x7 v25 r24.2 fun H26 =>
 iG x0 x1 x4 x5 x6 x7 H26)
 (iG x0 x1 x4 x5 x6 x7 r21.2) :=
 (pt rfl 0 Wl (by kernel_rfl))
theorem w7 : sS x0 x1 x4 x5 x6 H =
 ldN 4 [.i 4 x6] x0 H fun v27 =>
 (FF qC [v27] H).bind fun r28 =>
 aW [(vi 0), (vi 0), (vi 0), (vi 0)] r28.2 fun v29 H30 =>
 (dc 4 v29 r28.1 H30).bind fun H31 =>
 st 1 [.f 0] v29 (vi 3) H31 fun H32 =>
 sU x0 x1 x4 x5 x6 v29 H32 :=
 (pt rfl 0 uT (bt rfl (pa [1, 1, 0, 1, 4, 5, 1, 0, 4]) 1 B5 (pt rfl 1 aa8 (by kernel_rfl))))
theorem lJ : gL x4 x5 H = sQ x4 x5 H :=
 (by kernel_rfl)
theorem nR : jL x0 x1 x4 x5 x6 H =
 ep x0 fun v33 =>
 (aj .other .lss x6 v33).bind fun v34 =>
 (gV v34 true x6).bind fun v35 =>
 (gV v34 true x1).bind fun v36 =>
 (gB v34 true (aj .other .lss v35 v36)).bind fun v37 =>
 (aM v34 v37 (vb false)).bind fun v38 =>
 aw v38
 (sS x0 x1 x4 x5 x6 H)
 (gL x4 x5 H) :=
 pK rfl uS (pt rfl 0 aa6 (by kernel_rfl))
theorem w6 : sR x0 x1 x4 x5 x6 H =
 jL x0 x1 x4 x5 x6 H :=
 (bt rfl (pa [1, 1, 0, 1, 4]) 0 qi (li rfl (pa [1, 1, 0, 1, 4, 5]) uS (by kernel_rfl)))
theorem w5 : sP x0 x1 x4 x5 H =
 sR x0 x1 x4 x5 (vi 0) H :=
 (pt rfl 0 B4 (pt rfl 0 aa4 (by kernel_rfl)))
noncomputable def N3 : OV := aT PP GG FF (pa []) (ls [x0, x1] 54) H nG bC nG
theorem D0 {r : Value × AH} (h : (
 (kB [(.slice none 0 0)] 1 24 (vi 4) (vi 4) H).bind fun r39 =>
 sP x0 x1 (.slice none 0 0) r39.1 r39.2) = some r) : FF kJ [x0, x1] H = some r :=
 fo (t := N3 x0 x1 H) Tryz.func34 (by kernel_rfl) (Eq.trans (pt rfl 1 aa2 (by kernel_rfl)) h)
end
def pR (LL : List (ja × List Cl)) (n : Nat) : Prop := ∀ k q, LL[k]? = some q → 4 * q.2.length ≤ n + 3 - k ∧ ∀ c ∈ q.2, c.op = 3
theorem pR.mono {LL : List (ja × List Cl)} {n m : Nat} (h : pR LL n) (hn : n ≤ m) : pR LL m := fun k q hq => by
 have := h k q hq;exact ⟨by omega, this.2⟩
theorem pR.nil : pR [((none, 0, 0), []), ((none, 0, 0), []), ((none, 0, 0), []), ((none, 0, 0), [])] 0 := fun k q hq => by
 have hm := List.mem_of_getElem? hq;simp only [sm, List.not_mem_nil, or_false] at hm
 rcases hm with rfl | rfl | rfl | rfl <;> exact ⟨Nat.zero_le _, fun c hc => by cases hc⟩
theorem pR.snoc {LL : List (ja × List Cl)} {i : Nat} (h : pR LL i) (hw : i % 4 < LL.length) (s : ja) (c : Cl) (hc : c.op = 3) : pR (LL.set (i % 4) (s, LL[i % 4].2 ++ [c])) (i + 1) := fun k q hq => by
 by_cases e : k = i % 4
 ·subst e
  rw [List.getElem?_set_self hw] at hq;have hq := fi hq;subst hq;obtain ⟨h1, h2⟩ := h _ _ (br hw);refine ⟨?_, fun c' hc' => ?_⟩
  ·show 4 * (LL[i % 4].2 ++ [c]).length ≤ _
   rw [dh, List.length_singleton];omega
  ·rcases List.mem_append.1 hc' with hc' | hc'
   ·exact h2 c' hc'
   ·rw [List.mem_singleton.1 hc']; exact hc
 ·rw [List.getElem?_set_ne (fun h => e h.symm)] at hq
  obtain ⟨h1, h2⟩ := h k q hq;exact ⟨by omega, h2⟩
theorem amC {P : SP} {H : AH} {s : Value} {L : List Cl} [hR : Rd P s 4 Cl.cells L] (most : Nat) (hm : most < 1000) {k : Value × AH → OV} {Q : Value → AH → Prop} (h : ac P H)
 (hk : ∀ (b : Nat) (LL : List (ja × List Cl)) (H' : AH), LL.length = 4 → pR LL most → ac (ts 1 dy (vs b 4 1) (a9 LL) * (bZ LL * P)) H' → wp (k (vs b 4 1, H')) Q) :
 wp ((FF kJ [s, vi (most : Int)] H).bind k) Q := by
 have law : Sp kJ [s, vi (most : Int)] P (fun g : Nat × List (ja × List Cl) => vs g.1 4 1) (fun g => pu (g.2.length = 4 ∧ pR g.2 most) * (ts 1 dy (vs g.1 4 1) (a9 g.2) * (bZ g.2 * P))) := by
  refine aX (D0 _ _) fun R H h => ?_;refine DF (n := 4) (enc := dy) ((none, 0, 0) : ja) h rfl (by unfold room; omega) (by omega) fun b H1 h1 => ?_;refine ah (w5 ..) ?_;refine ah (w6 ..) ?_;have loop : ∀ (d i : Nat) (LL : List (ja × List Cl)) (H : AH), most - i = d → i ≤ most → LL.length = 4 → pR LL i → ac (ts 1 dy (vs b 4 1) (a9 LL) * (bZ LL * (P * R))) H →
   wp (jL s (vi (most : Int)) (.slice none 0 0) (vs b 4 1) (vi (i : Int)) H) fun v' H' => ∃ g : Nat × List (ja × List Cl), v' = vs g.1 4 1 ∧ ac (pu (g.2.length = 4 ∧ pR g.2 most) * (ts 1 dy (vs g.1 4 1) (a9 g.2) * (bZ g.2 * P)) * R) H' := by
   intro d
   induction d with
   | zero =>
    intro i LL H hd hi h4 hq hh
    have out : wp (gL (.slice none 0 0) (vs b 4 1) H) fun v' H' => ∃ g : Nat × List (ja × List Cl), v' = vs g.1 4 1 ∧ ac (pu (g.2.length = 4 ∧ pR g.2 most) * (ts 1 dy (vs g.1 4 1) (a9 g.2) * (bZ g.2 * P)) * R) H' := by
     refine ah (lJ ..) ?_;refine ah (nQ ..) ?_;refine aq ⟨(b, LL), rfl, ?_⟩;rw [ar, ac.pu];exact ⟨⟨h4, hq.mono hi⟩, hh.to⟩
    refine ah (nR ..) ?_;refine fq (s := s) (l := L) hh ?_
    by_cases hl : i < L.length
    ·refine aa (bO (by omega)) ?_
     refine gs ?_;refine aa (bu (by omega)) ?_;refine gs ?_;exact out
    ·refine aa (bu (by omega)) ?_
     refine gs ?_;exact out
   | succ d ih =>
    intro i LL H hd hi h4 hq hh
    have out : wp (gL (.slice none 0 0) (vs b 4 1) H) fun v' H' => ∃ g : Nat × List (ja × List Cl), v' = vs g.1 4 1 ∧ ac (pu (g.2.length = 4 ∧ pR g.2 most) * (ts 1 dy (vs g.1 4 1) (a9 g.2) * (bZ g.2 * P)) * R) H' := by
     refine ah (lJ ..) ?_;refine ah (nQ ..) ?_;refine aq ⟨(b, LL), rfl, ?_⟩;rw [ar, ac.pu];exact ⟨⟨h4, hq.mono hi⟩, hh.to⟩
    refine ah (nR ..) ?_;refine fq (s := s) (l := L) hh ?_
    by_cases hl : i < L.length
    case neg =>
     refine aa (bu (by omega)) ?_;refine gs ?_;exact out
    refine aa (bO (by omega)) ?_;refine gs ?_;refine aa (bO (by omega)) ?_;refine gs ?_;refine ah (w7 ..) ?_;refine yf (s := s) (l := L) hh hl ?_;refine ag hh (Xf L[i]) fun y H2 h2 => ?_;refine bm h2 fun cb H3 h3 => ?_;refine fm h3 rfl rfl fun H4 h4' => ?_;refine bw h4' aE rfl rfl fun H5 h5 => ?_;refine ah (w9 ..) ?_;refine IX (s := s) (l := L) (v := vi L[i].a) h5 hl (by omega) rfl ?_;refine PZ h5 (by omega) (by omega) fun H6 h6 => ?_;have tail : ∀ (z : Cl) (H : AH), z.op = 3 → ac (blk cb (.cells false (Cl.cells z)) * (ts 1 dy (vs b 4 1) (a9 LL) * (bZ LL * (P * R)))) H →
     wp (iG s (vi (most : Int)) (.slice none 0 0) (vs b 4 1) (vi (i : Int)) (vp cb) H) fun v' H' => ∃ g : Nat × List (ja × List Cl), v' = vs g.1 4 1 ∧ ac (pu (g.2.length = 4 ∧ pR g.2 most) * (ts 1 dy (vs g.1 4 1) (a9 g.2) * (bZ g.2 * P)) * R) H' := by
     intro z H hz3 hz
     have hw4 : i % 4 < LL.length := by omega
     have hhl : (a9 LL).length = LL.length := by simp [a9]
     refine ah (vc ..) ?_;refine bw hz aE rfl rfl fun H7 h7 => ?_;refine aa (ks (by omega)) ?_;refine aa (ks (by omega)) ?_;rw [show (i : Int).tmod 4 = ((i % 4 : Nat) : Int) from by rw [aiY (by omega)]; omega];refine agN (s := vs b 4 1) (l := a9 LL) (i := i % 4) (v := FP LL[i % 4].1) h7 (by omega) (by simp [a9]) ?_;refine a7 h7 ?_;refine L8 h7 fun rb H8 h8 => ?_;obtain ⟨Rr, e1, e2⟩ := vg hw4;have hql := (hq (i % 4) _ (br hw4)).1;rw [e1] at h8;refine gu (s := FP LL[i % 4].1) (l := LL[i % 4].2) (⟨z.op, z.flow, z.a, (i : Int)⟩ : Cl) h8 rfl ?_ (by omega) fun a c H9 h9 => ?_
     ·unfold room; omega
     refine DH (s := vs b 4 1) (l := a9 LL) (i := i % 4) ((a, LL[i % 4].2.length + 1, c) : ja) h9 (by omega) (.inl ⟨rfl, rfl⟩) rfl (by omega) rfl rfl fun H10 h10 => ?_;refine ah (w8 ..) ?_;refine aa (aB (by omega) (by omega)) ?_;rw [show ((i : Nat) : Int) + 1 = ((i + 1 : Nat) : Int) from by omega]
     have eh : a9 (LL.set (i % 4) ((a, LL[i % 4].2.length + 1, c), LL[i % 4].2 ++ [⟨z.op, z.flow, z.a, (i : Int)⟩])) = (a9 LL).set (i % 4) (a, LL[i % 4].2.length + 1, c) := by
      simp [a9, List.map_set]
     refine ih (i + 1) (LL.set (i % 4) ((a, LL[i % 4].2.length + 1, c), LL[i % 4].2 ++ [⟨z.op, z.flow, z.a, (i : Int)⟩])) H10 (by omega) (by omega) (by rw [xa]; exact h4) (hq.snoc hw4 _ _ hz3) ?_;rw [eh, e2];exact h10.to
    by_cases hg : 0 < dY L[i].a 5
    ·refine aa (nI hg) ?_
     refine gs ?_;refine IX (s := s) (l := L) (v := vi L[i].a) h6 hl (by omega) rfl ?_;refine PZ h6 (by omega) (by omega) fun H7 h7 => ?_;have m9 := fv (v := L[i].a) (n := 9) (by omega);refine aa (aB (by omega) (by omega)) ?_;refine bw h7 aE rfl rfl fun H8 h8 => ?_;exact tail ⟨3, y.flow, 1 + dY L[i].a 9, y.b⟩ H8 rfl h8.to
    ·refine aa (gh hg) ?_
     refine gs ?_;exact tail ⟨3, y.flow, y.a, y.b⟩ H6 rfl h6.to
  refine loop most 0 [((none, 0, 0), []), ((none, 0, 0), []), ((none, 0, 0), []), ((none, 0, 0), [])] H1 rfl (Nat.zero_le _) rfl pR.nil ?_;have z := dr 4 Cl.cells (dr 4 Cl.cells (dr 4 Cl.cells (dr 4 Cl.cells h1)));show ac (ts 1 dy (vs b 4 1) (List.replicate 4 ((none, 0, 0) : ja)) * ((ts 4 Cl.cells (.slice none 0 0) [] * (ts 4 Cl.cells (.slice none 0 0) [] * (ts 4 Cl.cells (.slice none 0 0) [] * (ts 4 Cl.cells (.slice none 0 0) [] * emp)))) * (P * R))) H1;exact z.to
 obtain ⟨⟨b, LL⟩, H', e, h'⟩ := law emp H (by rw [eN]; exact h);rw [e];rw [eN, ac.pu] at h';exact hk b LL H' h'.1.1 h'.1.2 h'.2
def wkE (p x : Nat) (rp : List Nat) : Wk → SP
 | none => emp
 | some q => eT q.1 p rp q.2.2 * xT q.2.1 x q.2.2
def YI (p x : Nat) (rp : List Nat) : List Wk → SP
 | [] => emp
 | q :: l => wkE p x rp q * YI p x rp l
theorem FV (p x : Nat) (rp : List Nat) : ∀ {ws : List Wk} {i : Nat} (h : i < ws.length), ∃ R, YI p x rp ws = wkE p x rp ws[i] * R ∧ ∀ q, YI p x rp (ws.set i q) = wkE p x rp q * R := by
 intro ws
 induction ws with
 | nil => intro i h; simp at h
 | cons q ws ih =>
  intro i h
  cases i with
  | zero => exact ⟨YI p x rp ws, rfl, fun q => rfl⟩
  | succ i =>
   obtain ⟨R, e1, e2⟩ := ih (i := i) (by simpa using h);refine ⟨wkE p x rp q * R, ?_, fun q' => ?_⟩
   ·show wkE p x rp q * YI p x rp ws = _
    rw [e1, bD]; rfl
   ·show wkE p x rp q * YI p x rp (ws.set i q') = _
    rw [e2, bD]
def WkE (σ : az) (q : Wk) (ev xv : Value) : Prop := match q with
 | none => xv = .pointer none
 | some q => ev = vp q.1 ∧ xv = vp q.2.1 ∧ fe σ q.2.2
structure WsE (σ : az) (ws : List Wk) (ev xv : List Value) (ats : List Nat) : Prop where
 l : ws.length = 4
 el : ev.length = 4
 xl : xv.length = 4
 al : ats.length = 4
 r : ∀ w (h : w < 4), WkE σ (ws[w]'(by omega)) (ev[w]'(by omega)) (xv[w]'(by omega))
theorem WkE.mono {σ σ' : az} {q : Wk} {ev xv : Value} (h : WkE σ q ev xv) (hc : σ'.c = σ.c) (ho : σ'.obs.length = σ.obs.length) : WkE σ' q ev xv := by
 cases q with
 | none => exact h
 | some q => exact ⟨h.1, h.2.1, h.2.2.mono hc ho⟩
theorem WsE.mono {σ σ' : az} {ws : List Wk} {ev xv : List Value} {ats : List Nat} (h : WsE σ ws ev xv ats) (hc : σ'.c = σ.c) (ho : σ'.obs.length = σ.obs.length) : WsE σ' ws ev xv ats :=
 ⟨h.l, h.el, h.xl, h.al, fun w hw => (h.r w hw).mono hc ho⟩
theorem WsE.set {σ : az} {ws : List Wk} {ev xv : List Value} {ats : List Nat} (h : WsE σ ws ev xv ats) {w : Nat} (hw : w < 4) {q : Wk} {e2 x2 : Value} (a : Nat) (hq : WkE σ q e2 x2) : WsE σ (ws.set w q) (ev.set w e2) (xv.set w x2) (ats.set w a) := by
 refine ⟨by simp [h.l], by simp [h.el], by simp [h.xl], by simp [h.al], fun w' hw' => ?_⟩;rw [List.getElem_set, List.getElem_set, List.getElem_set]
 by_cases e : w = w'
 ·rw [if_pos e, if_pos e, if_pos e]; exact hq
 ·rw [if_neg e, if_neg e, if_neg e]; exact h.r w' hw'
section
variable (p x pb eb xb ab : Nat) (rp : List Nat) (lb : Nat) (LL : List (ja × List Cl)) (pv : Value) (picks : List Int) (blows : Bool) (most : Nat)
abbrev TvP (σ : az) (ws : List Wk) (ev xv : List Value) (ats : List Nat) (R : SP) : SP :=
 blk pb (.cells false [vp p, vp x]) * (blk eb (.cells false ev) * (blk xb (.cells false xv) * (blk ab (.cells false (ats.map fun (n : Nat) => vi (n : Int))) * (bS p rp σ * (bQ x σ * (YI p x rp ws * (ts 1 dy (vs lb 4 1) (a9 LL) * (bZ LL * R))))))))
variable (J : Nat → Nat → az → List Wk → List Nat → Prop)
def ahC (ws : List Wk) (ats : List Nat) : Prop := ∀ w, w < 4 → ws[w]? = some none ∧ ∀ q, LL[w]? = some q → ∀ a, ats[w]? = some a → q.2.length ≤ a
def YQ (R : SP) (v' : Value) (H' : AH) : Prop := ∃ (b : Bool) (now' : Nat) (σ' : az) (ws' : List Wk) (ats' : List Nat), v' = .tuple #[vb b, vb true] ∧ SI σ' (16 + 12 * most) ∧ J most now' σ' ws' ats' ∧ (b = true ↔ ahC LL ws' ats') ∧ ac (bS p rp σ' * (bQ x σ' * (ts 1 dy (vs lb 4 1) (a9 LL) * (bZ LL * R)))) H'
theorem PX (hL : LL.length = 4) {R : SP} {σ : az} {ws : List Wk} {ev xv : List Value} {ats : List Nat} {H : AH} {now : Nat} (S : SI σ (16 + 12 * most)) (hJ : J most now σ ws ats) (W : WsE σ ws ev xv ats)
 (h : ac (TvP p x pb eb xb ab rp lb LL σ ws ev xv ats R) H) (x10 x11 : Value) :
 wp (N4 (vs lb 4 1) x10 x11 (vp xb) (vp ab) H) (YQ p x rp lb LL most J R) := by
 have hhl : (a9 LL).length = 4 := by simp [a9, hL]
 have fin : ∀ b : Bool, (b = true ↔ ahC LL ws ats) → YQ p x rp lb LL most J R (.tuple #[vb b, vb true]) H := fun b hb => ⟨b, now, σ, ws, ats, rfl, S, hJ, hb, h.to⟩;refine ah (WM ..) ?_;refine ah (WO ..) ?_
 have loop : ∀ (d w : Nat), w + d = 4 → (∀ k, k < w → ws[k]? = some none ∧ ∀ q, LL[k]? = some q → ∀ a, ats[k]? = some a → q.2.length ≤ a) → wp (HJ (vs lb 4 1) x10 x11 (vp xb) (vp ab) (vi (w : Int)) H) (YQ p x rp lb LL most J R) := by
  intro d
  induction d with
  | zero =>
   intro w hw hall;refine ah (E5 ..) ?_;refine aa (bu (by omega)) ?_;refine gs ?_;refine ah (Kx ..) ?_;refine ah (WN ..) ?_;exact aq (fin true ⟨fun _ k hk => hall k (by omega), fun _ => rfl⟩)
  | succ d ih =>
   intro w hw hall
   have hw4 : w < 4 := by omega
   have hwL : w < LL.length := by omega
   refine ah (E5 ..) ?_;refine aa (bO (by omega)) ?_;refine gs ?_;refine ge (s := vs lb 4 1) (l := a9 LL) h ?_;refine gs ?_;refine aa (bO (by omega)) ?_;refine gs ?_;refine ah (WP ..) ?_;refine n5 (v := xv[w]'(by rw [W.xl]; exact hw4)) h hw4 (br _) ?_;have wr := W.r w hw4
   have next : (ws[w]? = some none ∧ ∀ q, LL[w]? = some q → ∀ a, ats[w]? = some a → q.2.length ≤ a) → wp (Oc (vs lb 4 1) x10 x11 (vp xb) (vp ab) (vi (w : Int)) H) (YQ p x rp lb LL most J R) := by
    intro hthis;refine ah (WQ ..) ?_;refine aa (aB (by omega) (by omega)) ?_;refine ih (w + 1) (by omega) fun k hk => ?_
    by_cases e : k = w
    ·subst e; exact hthis
    ·exact hall k (by omega)
   have hwl : w < ws.length := by rw [W.l]; exact hw4
   have hal : w < ats.length := by rw [W.al]; exact hw4
   cases hq : ws[w]'(by rw [W.l]; exact hw4) with
   | some q =>
    rw [hq] at wr;rw [show xv[w]'(by rw [W.xl]; exact hw4) = vp q.2.1 from wr.2.1];refine aa (ai8 _) ?_;refine gs ?_
    exact aq (fin false ⟨(fun h => by cases h), fun h => by
     have := (h w hw4).1;rw [br hwl, hq] at this
     cases this⟩)
   | none =>
    rw [hq] at wr;rw [show xv[w]'(by rw [W.xl]; exact hw4) = .pointer none from wr];refine aa (adM) ?_;refine gs ?_;refine n5 (v := vi (ats[w]'(by rw [W.al]; exact hw4) : Nat)) h hw4 (by rw [tA, br (by rw [W.al]; exact hw4)]; rfl) ?_;refine gs ?_;refine fp (s := vs lb 4 1) (l := a9 LL) (i := w) (v := FP (LL[w]'hwL).1) h (by omega) (by simp [a9]) ?_;refine gs ?_
    haveI := xe (LL := LL) (i := w) hwL
    refine ge (s := FP (LL[w]'hwL).1) (l := (LL[w]'hwL).2) h ?_;refine gs ?_
    by_cases hlt : ats[w]'(by rw [W.al]; exact hw4) < (LL[w]'hwL).2.length
    ·refine aa (bO (by omega)) ?_
     refine gs ?_
     exact aq (fin false ⟨(fun h => by cases h), fun h => by
      have := (h w hw4).2 _ (br hwL) _ (br hal)
      omega⟩)
    ·refine aa (bu (by omega)) ?_
     refine gs ?_;refine next ⟨by rw [br hwl, hq], fun q hq2 a ha2 => ?_⟩;rw [br hwL] at hq2;rw [br hal] at ha2;cases hq2;cases ha2;omega
 exact loop 4 0 rfl fun k hk => by omega
end
section
variable (p x pb eb xb ab : Nat) (rp : List Nat) (lb : Nat) (LL : List (ja × List Cl)) (pv : Value) (picks : List Int) (most : Nat) (J : Nat → Nat → az → List Wk → List Nat → Prop) (x10 x11 : Value) (Z : SP)
variable (hL : LL.length = 4) (hQ : ∀ q ∈ LL, q.2.length ≤ 1000) (hm : most ≤ 4000) [hP : Rd Z pv 1 dO picks]
variable (hJs : ∀ (i : Nat) (σ : az) (ws : List Wk) (ats : List Nat) (w : Nat) (q : Nat × Nat × Tk) (now K : Nat), i < most → (picks.length ≤ i → w = i % 4) → K < 60000 → SI σ K → ws.length = 4 → ats.length = 4 → ws[w]? = some (some q) → fe σ q.2.2 → J i now σ ws ats →
 J (i + 1) (now + 1) (ai σ q.2.2 now).1 (ws.set w (if (ai σ q.2.2 now).2.2 = true then none else some (q.1, q.2.1, (ai σ q.2.2 now).2.1))) ats)
variable (hJb : ∀ (i now : Nat) (σ : az) (ws : List Wk) (ats : List Nat) (w e xk : Nat) (L : ja × List Cl) (a : Nat) (hLw : LL[w]? = some L) (haw : ats[w]? = some a) (hal : a < L.2.length), ci σ.c = true → ws.length = 4 → ats.length = 4 → ws[w]? = some none → J i now σ ws ats → J i now (σ.begin w a) (ws.set w (some (e, xk, Tk.new σ.c w L.2[a]))) (ats.set w (a + 1)))
variable (hJn : ∀ (i now : Nat) (σ : az) (ws : List Wk) (ats : List Nat) (w : Nat) (L : ja × List Cl) (a : Nat), (picks.length ≤ i → w = i % 4) → LL[w]? = some L → ats[w]? = some a → L.2.length ≤ a → ws.length = 4 → ws[w]? = some none → J i now σ ws ats → J (i + 1) now σ ws ats)
include hL hm hP hJs hJb hJn
theorem LM : ∀ (d i K now : Nat) (σ : az) (ws : List Wk) (ev xv : List Value) (ats : List Nat) (H : AH), i + d = most → SI σ K → K ≤ 16 + 12 * i → now ≤ i → WsE σ ws ev xv ats → (∀ a ∈ ats, a ≤ i) → J i now σ ws ats →
 ac (TvP p x pb eb xb ab rp lb LL σ ws ev xv ats Z) H →
 wp (z4 (vs lb 4 1) pv (vi (most : Int)) (vb false) (vp pb) x10 x11 (vp eb) (vp xb) (vp ab) (vi (now : Int)) (vi (i : Int)) H) (YQ p x rp lb LL most J Z) := by
 have hhl : (a9 LL).length = 4 := by simp [a9, hL]
 intro d
 induction d with
 | zero =>
  intro i K now σ ws ev xv ats H hi S hK hnow W ha hJ h;refine ah (Co ..) ?_;refine aa (bu (by omega)) ?_;refine gs ?_;refine ah (HH ..) ?_;exact PX p x pb eb xb ab rp lb LL most J hL (S.mono (by omega)) (by rw [show most = i from by omega]; exact hJ) W h x10 x11
 | succ d ih =>
  intro i K now σ ws ev xv ats H hi S hK hnow W ha hJ h;refine ah (Co ..) ?_;refine aa (bO (by omega)) ?_;refine gs ?_;refine ah (N6 ..) ?_;refine aa (ks (by omega)) ?_
  -- what is next, whatever was done
  have next : ∀ (K' now' : Nat) (σ' : az) (ws' : List Wk) (ev' xv' : List Value) (ats' : List Nat) (H' : AH), SI σ' K' → K' ≤ 16 + 12 * (i + 1) → now' ≤ i + 1 → WsE σ' ws' ev' xv' ats' → (∀ a ∈ ats', a ≤ i + 1) → J (i + 1) now' σ' ws' ats' →
   ac (TvP p x pb eb xb ab rp lb LL σ' ws' ev' xv' ats' Z) H' →
   wp (ve (vs lb 4 1) pv (vi (most : Int)) (vb false) (vp pb) x10 x11 (vp eb) (vp xb) (vp ab) (vi (now' : Int)) (vi (i : Int)) H') (YQ p x rp lb LL most J Z) := by
   intro K' now' σ' ws' ev' xv' ats' H' S' hK' hnow' W' ha' hJ' h';refine ah (N7 ..) ?_;refine aa (aB (by omega) (by omega)) ?_;rw [show ((i : Nat) : Int) + 1 = ((i + 1 : Nat) : Int) from by omega];exact ih (i + 1) K' now' σ' ws' ev' xv' ats' H' (by omega) S' hK' hnow' W' ha' hJ' h'
  have skip : ∀ (H' : AH), J (i + 1) now σ ws ats → ac (TvP p x pb eb xb ab rp lb LL σ ws ev xv ats Z) H' → wp (rR (vs lb 4 1) pv (vi (most : Int)) (vb false) (vp pb) x10 x11 (vp eb) (vp xb) (vp ab) (vi (now : Int)) (vi (i : Int)) H') (YQ p x rp lb LL most J Z) := by
   intro H' hJ' h';refine ah (HI ..) ?_;exact next K now σ ws ev xv ats H' S (by omega) (by omega) W (fun a h2 => by have := ha a h2; omega) hJ' h'
  -- a step of one that is under way
  have step : ∀ (w : Nat) (hw : w < 4) (hpw : picks.length ≤ i → w = i % 4) (e xk : Nat) (t : Tk) (K1 : Nat) (σ1 : az) (ws1 : List Wk) (ev1 xv1 : List Value) (ats1 : List Nat) (H1 : AH), SI σ1 K1 → K1 ≤ 16 + 12 * i + 1 → J i now σ1 ws1 ats1 → (W1 : WsE σ1 ws1 ev1 xv1 ats1) → (∀ a ∈ ats1, a ≤ i + 1) →
   ws1[w]'(by rw [W1.l]; exact hw) = some (e, xk, t) → ac (TvP p x pb eb xb ab rp lb LL σ1 ws1 ev1 xv1 ats1 Z) H1 →
   wp (z5 (vs lb 4 1) pv (vi (most : Int)) (vb false) (vp pb) x10 x11 (vp eb) (vp xb) (vp ab) (vi (now : Int)) (vi (i : Int)) (vi (w : Int)) H1) (YQ p x rp lb LL most J Z) := by
   intro w hw hpw e xk t K1 σ1 ws1 ev1 xv1 ats1 H1 S1 hK1 hJ1 W1 ha1 hwk h1
   have hwl : w < ws1.length := by rw [W1.l]; exact hw
   have wr := W1.r w hw;rw [hwk] at wr;obtain ⟨we0, wx0, wt0⟩ := wr;have we : ev1[w]'(by rw [W1.el]; exact hw) = vp e := we0;have wx : xv1[w]'(by rw [W1.xl]; exact hw) = vp xk := wx0;have wt : fe σ1 t := wt0;obtain ⟨Rw, es1, es2⟩ := FV p x rp hwl;rw [hwk] at es1;have es1' : YI p x rp ws1 = eT e p rp t * xT xk x t * Rw := es1;have K2 := Yj (now : Int) (by omega) S1 wt;have hJ2 := hJs i σ1 ws1 ats1 w (e, xk, t) now K1 (by omega) hpw (by omega) S1 W1.l W1.al (by rw [br hwl, hwk]) wt hJ1;dsimp only at hJ2;refine ah (Oa ..) ?_;refine n5 (v := vp e) h1 hw (by rw [br (by rw [W1.el]; exact hw), we]) ?_
   have h2 : ac (eP e p rp σ1 t * (blk pb (.cells false [vp p, vp x]) * (blk eb (.cells false ev1) * (blk xb (.cells false xv1) * (blk ab (.cells false (ats1.map fun (n : Nat) => vi (n : Int))) * (xT xk x t * (bQ x σ1 * (Rw * (ts 1 dy (vs lb 4 1) (a9 LL) * (bZ LL * Z)))))))))) H1 := by
    rw [Zs, ar];unfold TvP at h1;rw [es1'] at h1;exact h1.to
   refine ag h2 (Zv e p rp σ1 t now (S1.ok (by omega)) wt) fun _ H2 h3 => ?_;refine aa (v := .agg (n3 (if (ai σ1 t now).2.2 = true then (ai σ1 t now).2.1.code else 0)).toArray) rfl ?_;refine aa (v := vb (ai σ1 t now).2.2) rfl ?_;refine bm h3 fun qb H3 h4 => ?_;refine fm h4 rfl rfl fun H4 h5 => ?_;refine n5 (v := vp xk) h5 hw (by rw [br (by rw [W1.xl]; exact hw), wx]) ?_
   have h6 : ac (xP xk x σ1 t * (eQ e p rp (ai σ1 t now) * (blk qb (.cells false (n3 (if (ai σ1 t now).2.2 = true then (ai σ1 t now).2.1.code else 0))) * (blk pb (.cells false [vp p, vp x]) * (blk eb (.cells false ev1) * (blk xb (.cells false xv1) * (blk ab (.cells false (ats1.map fun (n : Nat) => vi (n : Int))) * (Rw * (ts 1 dy (vs lb 4 1) (a9 LL) * (bZ LL * Z)))))))))) H4 := by
    rw [aoY, ar]; exact h5.to
   refine ag h6 (YC xk x σ1 t now (S1.ok (by omega)) wt) fun _ H5 h7 => ?_;refine aa (amA _) ?_;rw [aoZ, anW] at h7;refine cZ ?_;refine a7 h7 ?_;refine gs ?_;refine n5 (v := vp xk) h7 hw (by rw [br (by rw [W1.xl]; exact hw), wx]) ?_;refine gs ?_;refine ag h7 (af7 x xk (ai σ1 t now)) fun _ H6 h8 => ?_;refine en h8 h7 (by rfl) ?_;refine mI ?_;refine ag h8 (acQ _) fun _ H7 h9 => ?_;refine cZ ?_;refine aa oW ?_;rw [Bool.not_true];refine aa (kq _ _) ?_;refine am8 (p := p) (x := x) (pb := pb) (rp := rp) (σ := (ai σ1 t now).1) h9 fun H8 hA => ?_;refine gs ?_;refine aa (aB (by omega) (by omega)) ?_;rw [show ((now : Nat) : Int) + 1 = ((now + 1 : Nat) : Int) from by omega];have SI2 : SI (ai σ1 t now).1 (K1 + 3) := K2.si
   have hel : w < ev1.length := by rw [W1.el]; exact hw
   have hxl : w < xv1.length := by rw [W1.xl]; exact hw
   have hal : w < ats1.length := by rw [W1.al]; exact hw
   cases hd : (ai σ1 t now).2.2
   ·rw [anX hd, ao0 hd] at hA
    refine gs ?_;have W2 := (W1.mono K2.c K2.obs).set hw (q := some (e, xk, (ai σ1 t now).2.1)) (e2 := ev1[w]) (x2 := xv1[w]) ats1[w] ⟨we, wx, K2.ok hd⟩;rw [qY hel, qY hxl, qY hal] at W2;rw [hd, if_neg (by simp)] at hJ2;refine next (K1 + 3) (now + 1) _ _ ev1 xv1 ats1 H8 SI2 (by omega) (by omega) W2 ha1 hJ2 ?_;have e3 := es2 (some (e, xk, (ai σ1 t now).2.1));have e3' : YI p x rp (ws1.set w (some (e, xk, (ai σ1 t now).2.1))) = eT e p rp (ai σ1 t now).2.1 * xT xk x (ai σ1 t now).2.1 * Rw := e3;unfold TvP;rw [e3'];exact hA.to
   ·refine gs ?_
    refine Uo (v := .pointer none) (w := w) hA hw W1.xl rfl fun H9 hB => ?_;have W2 := (W1.mono K2.c K2.obs).set hw (q := none) (e2 := ev1[w]) (x2 := .pointer none) ats1[w] rfl;rw [qY hel, qY hal] at W2;rw [hd, if_pos rfl] at hJ2;refine next (K1 + 3) (now + 1) _ _ ev1 _ ats1 H9 SI2 (by omega) (by omega) W2 ha1 hJ2 ?_;have e3 := es2 none;have e3' : YI p x rp (ws1.set w none) = emp * Rw := e3;unfold TvP;rw [e3', jI];exact hB.to
  -- one is picked
  have pick : ∀ (w : Nat) (hw : w < 4) (hpw : picks.length ≤ i → w = i % 4) (H' : AH), ac (TvP p x pb eb xb ab rp lb LL σ ws ev xv ats Z) H' →
   wp (vf (vs lb 4 1) pv (vi (most : Int)) (vb false) (vp pb) x10 x11 (vp eb) (vp xb) (vp ab) (vi (now : Int)) (vi (i : Int)) (vi (w : Int)) H') (YQ p x rp lb LL most J Z) := by
   intro w hw hpw H' h'
   have hwL : w < LL.length := by omega
   have hwl : w < ws.length := by rw [W.l]; exact hw
   have hel : w < ev.length := by rw [W.el]; exact hw
   have hxl : w < xv.length := by rw [W.xl]; exact hw
   have hal : w < ats.length := by rw [W.al]; exact hw
   have wr := W.r w hw;refine ah (N9 ..) ?_;refine n5 (v := xv[w]) h' hw (br _) ?_
   cases hq : ws[w] with
   | some q =>
    rw [hq] at wr;rw [show xv[w] = vp q.2.1 from wr.2.1];refine aa (lW _) ?_;refine gs ?_;refine ah (Cp ..) ?_;refine n5 (v := vp q.2.1) h' hw (by rw [br hxl, show xv[w] = vp q.2.1 from wr.2.1]) ?_;refine aa (lW _) ?_;refine gs ?_;exact step w hw hpw q.1 q.2.1 q.2.2 K σ ws ev xv ats H' S (by omega) hJ W (fun a h2 => by have := ha a h2; omega) hq h'
   | none =>
    rw [hq] at wr;rw [show xv[w] = .pointer none from wr];refine aa (Te) ?_;refine gs ?_;refine ge (s := vs lb 4 1) (l := a9 LL) h' ?_;refine gs ?_;refine aa (nH (by omega)) ?_;refine gs ?_
    have hav : (ats.map fun (n : Nat) => vi (n : Int))[w]? = some (vi (ats[w] : Nat)) := by rw [tA, br hal]; rfl
    refine n5 (v := vi (ats[w] : Nat)) h' hw hav ?_;refine gs ?_;refine fp (s := vs lb 4 1) (l := a9 LL) (i := w) (v := FP (LL[w]'hwL).1) h' (by omega) (by simp [a9]) ?_;refine gs ?_
    haveI := xe (LL := LL) (i := w) hwL
    refine ge (s := FP (LL[w]'hwL).1) (l := (LL[w]'hwL).2) h' ?_;refine gs ?_
    by_cases hge : (LL[w]'hwL).2.length ≤ ats[w]
    ·refine aa (yw (by omega)) ?_
     refine gs ?_;exact skip H' (hJn i now σ ws ats w (LL[w]'hwL) ats[w] hpw (br hwL) (br hal) hge W.l (by rw [br hwl, hq]) hJ) h'
    ·refine aa (nH (by omega)) ?_
     refine gs ?_
     have hat : ats[w] < (LL[w]'hwL).2.length := by omega
     refine ah (Cp ..) ?_;refine n5 (v := .pointer none) h' hw (by rw [br hxl, show xv[w] = .pointer none from wr]) ?_;refine aa (Te) ?_;refine gs ?_;refine fp (s := vs lb 4 1) (l := a9 LL) (i := w) (v := FP (LL[w]'hwL).1) h' (by omega) (by simp [a9]) ?_;refine n5 (v := vi (ats[w] : Nat)) h' hw hav ?_;refine yf (s := FP (LL[w]'hwL).1) (l := (LL[w]'hwL).2) h' hat ?_;refine bm h' fun cb H1 h1 => ?_;refine fm h1 rfl rfl fun H2 h2 => ?_;refine a7 h2 ?_;refine n5 (v := vi (ats[w] : Nat)) h2 hw hav ?_;have hat400 : ats[w] ≤ i := ha _ (Ku hal);refine ag h2 (OA p x rp σ w ats[w] (by have := S.N; omega)) fun _ H3 h3 => ?_;refine av h3 aE rfl ?_;refine a7 h3 ?_;obtain ⟨c, hc⟩ : ∃ c : Cl, c = (LL[w]'hwL).2[ats[w]]'hat := ⟨_, rfl⟩;rw [← hc] at h3 ⊢;have hb : ci (σ.begin w ats[w]).c = true := S.c;refine ag h3 (Zu p rp (σ.begin w ats[w]) hb w c) fun e H4 h4 => ?_;refine bp aE ?_;refine aL h4 rfl ?_;refine aI h3 h4 (by rfl) ?_;refine a7 h4 ?_;refine en h3 h4 rfl ?_;refine ag h4 (K6 x (σ.begin w ats[w]) w c 0) fun xk H5 h5 => ?_;refine Uo (v := vp e) (w := w) h5 hw W.el rfl fun H6 h6 => ?_;refine Uo (v := vp xk) (w := w) h6 hw W.xl rfl fun H7 h7 => ?_;refine n5 (v := vi (ats[w] : Nat)) h7 hw hav ?_;refine aa (aB (by omega) (by omega)) ?_;rw [show ((ats[w] : Nat) : Int) + 1 = ((ats[w] + 1 : Nat) : Int) from by omega];refine Uo (v := vi ((ats[w] + 1 : Nat) : Int)) (w := w) h7 hw (by rw [pJ]; exact W.al) rfl fun H8 h8 => ?_;refine n5 (v := vp e) h8 hw (by rw [List.getElem?_set_self hel]) ?_;refine aa (lW _) ?_;refine gs ?_;have W2 := (W.mono (σ' := σ.begin w ats[w]) rfl rfl).set hw (q := some (e, xk, Tk.new (σ.begin w ats[w]).c w c)) (e2 := vp e) (x2 := vp xk) (ats[w] + 1) ⟨rfl, rfl, fe.new hb w c⟩;obtain ⟨Rw, es1, es2⟩ := FV p x rp hwl;rw [hq] at es1;have es1' : YI p x rp ws = emp * Rw := es1;have e3 := es2 (some (e, xk, Tk.new (σ.begin w ats[w]).c w c));have e3' : YI p x rp (ws.set w (some (e, xk, Tk.new (σ.begin w ats[w]).c w c))) = eT e p rp (Tk.new (σ.begin w ats[w]).c w c) * xT xk x (Tk.new (σ.begin w ats[w]).c w c) * Rw := e3;refine step w hw hpw e xk (Tk.new (σ.begin w ats[w]).c w c) (K + 1) (σ.begin w ats[w]) _ _ _ (ats.set w (ats[w] + 1)) H8 (S.begin _ _) (by omega) (by rw [hc]; exact hJb i now σ ws ats w e xk (LL[w]'hwL) ats[w] (br hwL) (br hal) hat S.c W.l W.al (by rw [br hwl, hq]) hJ) W2 (fun a h2 => ?_) (by rw [List.getElem_set_self]) ?_
     ·rcases List.mem_or_eq_of_mem_set h2 with h2 | rfl
      ·have := ha a h2; omega
      ·omega
     ·unfold TvP
      rw [e3']
      have em : ((ats.set w (ats[w] + 1)).map fun (n : Nat) => vi (n : Int)) = (ats.map fun (n : Nat) => vi (n : Int)).set w (vi ((ats[w] + 1 : Nat) : Int)) := by rw [List.map_set]
      rw [em];rw [es1', jI] at h8;exact h8.to
  refine ah (N8 ..) ?_;refine fq (s := pv) (l := picks) h ?_;rw [show (i : Int).tmod 4 = ((i % 4 : Nat) : Int) from by rw [aiY (by omega)]; omega]
  by_cases hpl : i < picks.length
  ·refine aa (bO (by omega)) ?_
   refine gs ?_;refine fp (s := pv) (l := picks) (v := vi picks[i]) h hpl rfl ?_;refine PZ h (by omega) (by omega) fun H1 h1 => ?_;have m9 := fv (v := picks[i]) (n := 9) (by omega)
   have other : wp ((aj .other .rem (vi (dY picks[i] 9)) (vi 4)).bind fun v123 => vf (vs lb 4 1) pv (vi (most : Int)) (vb false) (vp pb) x10 x11 (vp eb) (vp xb) (vp ab) (vi (now : Int)) (vi (i : Int)) v123 H1) (YQ p x rp lb LL most J Z) := by
    refine aa (ks (by omega)) ?_
    obtain ⟨w, hw, ew⟩ : ∃ w : Nat, w < 4 ∧ (dY picks[i] 9).tmod 4 = (w : Int) := by
     rw [aiY m9.1];exact ⟨(dY picks[i] 9 % 4).toNat, by omega, by omega⟩
    rw [ew];exact pick w hw (fun h => by omega) H1 h1
   by_cases h8 : dY picks[i] 9 = 8
   ·refine aa (bF h8) ?_
    refine gs ?_;exact other
   ·refine aa (aQ h8) ?_
    refine gs ?_;exact other
  ·refine aa (bu (by omega)) ?_
   refine gs ?_;exact pick (i % 4) (by omega) (fun _ => rfl) H h
end
theorem OB (p x : Nat) (rp : List Nat) (σ : az) (K : Nat) (S : SI σ K) (hK : K ≤ 16) (lb : Nat) (LL : List (ja × List Cl)) (hL : LL.length = 4) (pv : Value) (picks : List Int) (most : Nat) (hm : most ≤ 4000) (J : Nat → Nat → az → List Wk → List Nat → Prop) (hJ0 : J 0 0 σ [none, none, none, none] [0, 0, 0, 0])
 (hJs : ∀ (i : Nat) (σ : az) (ws : List Wk) (ats : List Nat) (w : Nat) (q : Nat × Nat × Tk) (now K : Nat), i < most → (picks.length ≤ i → w = i % 4) → K < 60000 → SI σ K → ws.length = 4 → ats.length = 4 → ws[w]? = some (some q) → fe σ q.2.2 → J i now σ ws ats →
  J (i + 1) (now + 1) (ai σ q.2.2 now).1 (ws.set w (if (ai σ q.2.2 now).2.2 = true then none else some (q.1, q.2.1, (ai σ q.2.2 now).2.1))) ats)
 (hJb : ∀ (i now : Nat) (σ : az) (ws : List Wk) (ats : List Nat) (w e xk : Nat) (L : ja × List Cl) (a : Nat) (hLw : LL[w]? = some L) (haw : ats[w]? = some a) (hal : a < L.2.length), ci σ.c = true → ws.length = 4 → ats.length = 4 → ws[w]? = some none → J i now σ ws ats → J i now (σ.begin w a) (ws.set w (some (e, xk, Tk.new σ.c w L.2[a]))) (ats.set w (a + 1)))
 (hJn : ∀ (i now : Nat) (σ : az) (ws : List Wk) (ats : List Nat) (w : Nat) (L : ja × List Cl) (a : Nat), (picks.length ≤ i → w = i % 4) → LL[w]? = some L → ats[w]? = some a → L.2.length ≤ a → ws.length = 4 → ws[w]? = some none → J i now σ ws ats → J (i + 1) now σ ws ats)
 {Z : SP} [hP : Rd Z pv 1 dO picks] {P : SP} {H : AH} (h : ac P H) [f : Fr P (bS p rp σ * (bQ x σ * (ts 1 dy (vs lb 4 1) (a9 LL) * bZ LL))) Z] {k : Value × AH → OV} {Q : Value → AH → Prop}
 (hk : ∀ (b : Bool) (now' : Nat) (σ' : az) (ws' : List Wk) (ats' : List Nat) (H' : AH), SI σ' (16 + 12 * most) → J most now' σ' ws' ats' → (b = true ↔ ahC LL ws' ats') → ac (bS p rp σ' * (bQ x σ' * (ts 1 dy (vs lb 4 1) (a9 LL) * (bZ LL * Z)))) H' → wp (k (.tuple #[vb b, vb true], H')) Q) :
 wp ((FF SU [.agg [vp p, vp x].toArray, vs lb 4 1, pv, vi (most : Int), vb false] H).bind k) Q := by
 have h0 : ac (bS p rp σ * (bQ x σ * (ts 1 dy (vs lb 4 1) (a9 LL) * bZ LL)) * Z) H := ac.fr h
 have main : wp (FF SU [.agg [vp p, vp x].toArray, vs lb 4 1, pv, vi (most : Int), vb false] H) (YQ p x rp lb LL most J Z) := by
  refine bf (fun r => al8 _ _ _ _ _ H) ?_;refine a8 (l := [vp p, vp x]) h0 fun pb H1 h1 => ?_;refine bm h1 fun eb H2 h2 => ?_;refine bm h2 fun xb H3 h3 => ?_;refine bm h3 fun ab H4 h4 => ?_;refine ah (WL ..) ?_;refine ah (N5 ..) ?_;refine LM p x pb eb xb ab rp lb LL pv picks most J (vb false) (vb false) Z hL hm hJs hJb hJn most 0 K 0 σ [none, none, none, none] [.pointer none, .pointer none, .pointer none, .pointer none] [.pointer none, .pointer none, .pointer none, .pointer none] [0, 0, 0, 0] H4 (by omega) S (by omega) (bj _) ⟨rfl, rfl, rfl, rfl, fun w hw => ?_⟩ (fun a ha => ?_) hJ0 ?_
  ·have : w = 0 ∨ w = 1 ∨ w = 2 ∨ w = 3 := by omega
   rcases this with rfl | rfl | rfl | rfl <;> rfl
  ·simp at ha; omega
  ·show ac (blk pb (.cells false [vp p, vp x]) * (blk eb (.cells false [.pointer none, .pointer none, .pointer none, .pointer none]) * (blk xb (.cells false [.pointer none, .pointer none, .pointer none, .pointer none]) * (blk ab (.cells false [vi 0, vi 0, vi 0, vi 0]) * (bS p rp σ * (bQ x σ * ((emp * (emp * (emp * (emp * emp)))) * (ts 1 dy (vs lb 4 1) (a9 LL) * (bZ LL * Z))))))))) H4
   exact h4.to
 obtain ⟨v, H', e, b, now', σ', ws', ats', rfl, S', hJ', hb, h'⟩ := main;rw [e];exact hk b now' σ' ws' ats' H' S' hJ' hb h'
def eO (ws : List Wk) (w : Nat) : Option Tk := match ws[w]? with
 | some (some q) => some q.2.2
 | _ => none
theorem Aj {ws : List Wk} {w : Nat} {q : Wk} (hw : w < ws.length) (k : Nat) : eO (ws.set w q) k = if k = w then q.map (fun z => z.2.2) else eO ws k := by
 unfold eO
 by_cases e : k = w
 ·subst e
  rw [if_pos rfl, List.getElem?_set_self hw]
  cases q <;> rfl
 ·rw [if_neg e, List.getElem?_set_ne (fun h => e h.symm)]
theorem LV {ws : List Wk} {w : Nat} {q : Wk} (h : ws[w]? = some q) : w < ws.length := by
 rcases Nat.lt_or_ge w ws.length with h2 | h2
 ·exact h2
 ·rw [List.getElem?_eq_none h2] at h; cases h
theorem ajW {P : SP} {H : AH} {k : Value × AH → OV} {Q : Value → AH → Prop} (h : ac P H) [i : Hs P 0 (.cells true tabC)] (hk : ∀ H', ac P H' → wp (k (vb true, H')) Q) : wp ((FF qA [] H).bind k) Q := by
 obtain ⟨H', e, _, hg⟩ := Mv (D := []) (fun j hj => by cases hj) (by decide) UH (i.get h);have e' : FF qA [] H = some (vb true, H') := e;rw [e'];exact hk H' (h.keeps hg)
structure RA (B R p : Nat) (fin : Nat → Prop) (Φ : Nat → Nat) (hd : Nat → Prop) : Prop where
 a1 : ∀ v, v < 4 → ¬ fin v → Φ v + R ≤ B
 a2 : ∀ v u, v < 4 → u < p → u ≠ v → hd u → ¬ fin v → Φ v + R + 1 ≤ B
 a3 : ∀ v, v < p → ¬ fin v → Φ v + R + 1 ≤ B ∨ ∃ u, p ≤ u ∧ u < 4 ∧ u ≠ v ∧ hd u
section
variable {B R p : Nat} {fin fin' : Nat → Prop} {Φ Φ' : Nat → Nat} {hd hd' : Nat → Prop}
theorem RA.turn (h : RA B R p fin Φ hd) (hp : p < 4) (hf : ∀ v, v < 4 → ¬ fin' v → ¬ fin v) (hh : ∀ u, u ≠ p → hd' u → hd u) (hh2 : ∀ u, u ≠ p → hd u → hd' u) (hΦ : ∀ v, v < 4 → v ≠ p → Φ' v ≤ Φ v)
 (hH : hd p ∨ hd' p → ∀ v, v < 4 → v ≠ p → Φ' v + 1 ≤ Φ v) (hown : ¬ fin' p → Φ' p + 1 ≤ Φ p ∨ Φ' p ≤ Φ p ∧ ∃ u, u < 4 ∧ u ≠ p ∧ hd u) : RA B R (p + 1) fin' Φ' hd' := by
 have le : ∀ v, v < 4 → ¬ fin' v → Φ' v ≤ Φ v := fun v hv hn => by
  by_cases e : v = p
  ·subst e
   rcases hown hn with h1 | ⟨h1, _⟩ <;> omega
  ·exact hΦ v hv e
 refine ⟨fun v hv hn => ?_, fun v u hv hu hne hdu hn => ?_, fun v hv hn => ?_⟩
 ·have := h.a1 v hv (hf v hv hn)
  have := le v hv hn;omega
 ·by_cases e : u = p
  ·subst e
   have := hH (.inr hdu) v hv (fun q => hne q.symm);have := h.a1 v hv (hf v hv hn);omega
  ·have := h.a2 v u hv (by omega) hne (hh u e hdu) (hf v hv hn)
   have := le v hv hn;omega
 ·by_cases e : v = p
  ·subst e
   have h1 := h.a1 v hp (hf v hp hn)
   rcases hown hn with h2 | ⟨h2, u, u1, u2, u3⟩
   ·left; omega
   ·rcases Nat.lt_or_ge u v with h3 | h3
    ·have := h.a2 v u hp h3 u2 u3 (hf v hp hn)
     left; omega
    ·exact .inr ⟨u, by omega, u1, u2, hh2 u u2 u3⟩
  ·have hv4 : v < 4 := by omega
   rcases h.a3 v (by omega) (hf v hv4 hn) with h2 | ⟨u, u1, u2, u3, u4⟩
   ·have := le v hv4 hn
    left; omega
   ·by_cases e2 : u = p
    ·subst e2
     have := hH (.inl u4) v hv4 e;have := h.a1 v hv4 (hf v hv4 hn)
     left; omega
    ·exact .inr ⟨u, by omega, u2, u3, hh2 u e2 u4⟩
theorem RA.wrap (h : RA B R 4 fin Φ hd) : RA B (R + 1) 0 fin Φ hd :=
 ⟨fun v hv hn => by
  rcases h.a3 v hv hn with h | ⟨u, h1, h2, _⟩
  ·omega
  ·omega, fun v u _ hu => by omega, fun v hv => by omega⟩
end
def S4 (f : Nat → Nat) : Nat := f 0 + f 1 + f 2 + f 3
theorem uh (f : Nat → Nat) {w : Nat} (h : w < 4) : f w ≤ S4 f := by
 unfold S4
 have : w = 0 ∨ w = 1 ∨ w = 2 ∨ w = 3 := by omega
 rcases this with rfl | rfl | rfl | rfl <;> omega
theorem Ao {f f' : Nat → Nat} {w : Nat} (h : w < 4) (e : ∀ u, u < 4 → u ≠ w → f' u = f u) : S4 f' + f w = S4 f + f' w := by
 unfold S4;have e0 := e 0 (by omega);have e1 := e 1 (by omega);have e2 := e 2 (by omega);have e3 := e 3 (by omega)
 have : w = 0 ∨ w = 1 ∨ w = 2 ∨ w = 3 := by omega
 rcases this with rfl | rfl | rfl | rfl
 ·rw [e1 (by omega), e2 (by omega), e3 (by omega)]; omega
 ·rw [e0 (by omega), e2 (by omega), e3 (by omega)]; omega
 ·rw [e0 (by omega), e1 (by omega), e3 (by omega)]; omega
 ·rw [e0 (by omega), e1 (by omega), e2 (by omega)]; omega
section
variable (n : Nat) (σ : az) (tk : Nat → Option Tk) (fut : Nat → Nat)
def dW (w : Nat) : Nat := (match tk w with | some t => dT n σ t | none => 0) + fut w * (14 + 2 * n)
def eW (w : Nat) : Nat := (match tk w with | some t => kQ n t | none => 0) + fut w * (n + 13)
def zj (w : Nat) : Nat := dW n σ tk fut w + (S4 (eW n tk fut) - eW n tk fut w)
def DY (w : Nat) : Prop := tk w = none ∧ fut w = 0
def Km (w : Nat) : Prop := ∃ t, tk w = some t ∧ jm t
end
section
variable {n : Nat} {σ : az} {tk : Nat → Option Tk} {fut : Nat → Nat} {w : Nat} {t : Tk} {r : az × Tk × Bool}
theorem anY (P : PotR n σ t r) : kR n r ≤ kQ n t := by
 have h := P.oth { t with at' := 11 };have e : ∀ σ' : az, dT n σ' { t with at' := 11 } = 1 := fun σ' => rfl;rw [e, e] at h;omega
theorem anZ (P : PotR n σ t r) (hh : jm t ∨ t.at' = 3 ∧ ¬ wj σ t) : kR n r + 1 ≤ kQ n t := by
 have h := P.hol hh { t with at' := 11 };have e : ∀ σ' : az, dT n σ' { t with at' := 11 } = 1 := fun σ' => rfl;rw [e, e] at h;omega
abbrev i9 (tk : Nat → Option Tk) (w : Nat) (r : az × Tk × Bool) : Nat → Option Tk := fun k => if k = w then (if r.2.2 = true then none else some r.2.1) else tk k
theorem QH (ht : tk w = some t) (P : PotR n σ t r) : eW n (i9 tk w r) fut w + kQ n t = eW n tk fut w + kR n r := by
 unfold eW kR i9;rw [if_pos rfl, ht]
 cases r.2.2 <;> simp <;> omega
theorem JB {u : Nat} (h : u ≠ w) : eW n (i9 tk w r) fut u = eW n tk fut u := by
 unfold eW i9;rw [if_neg h]
theorem amK (hw : w < 4) (ht : tk w = some t) (P : PotR n σ t r) {v : Nat} (hv : v < 4) (hne : v ≠ w) : zj n r.1 (i9 tk w r) fut v ≤ zj n σ tk fut v := by
 have e1 := QH (fut := fut) ht P;have e2 := Ao hw (f := eW n tk fut) (f' := eW n (i9 tk w r) fut) (fun u _ hu => JB hu);have e3 : eW n (i9 tk w r) fut v = eW n tk fut v := JB hne;have l1 := uh (eW n tk fut) hv;have l2 := uh (eW n (i9 tk w r) fut) hv
 have d : dW n r.1 (i9 tk w r) fut v + kR n r ≤ dW n σ tk fut v + kQ n t := by
  unfold dW i9;rw [if_neg hne]
  cases tk v with
  | none => have := anY P; dsimp only; omega
  | some u => have := P.oth u; dsimp only; omega
 unfold zj;omega
theorem amJ (hw : w < 4) (ht : tk w = some t) (P : PotR n σ t r) (hh : jm t ∨ t.at' = 3 ∧ ¬ wj σ t) {v : Nat} (hv : v < 4) (hne : v ≠ w) : zj n r.1 (i9 tk w r) fut v + 1 ≤ zj n σ tk fut v := by
 have e1 := QH (fut := fut) ht P;have e2 := Ao hw (f := eW n tk fut) (f' := eW n (i9 tk w r) fut) (fun u _ hu => JB hu);have e3 : eW n (i9 tk w r) fut v = eW n tk fut v := JB hne;have l1 := uh (eW n tk fut) hv;have l2 := uh (eW n (i9 tk w r) fut) hv
 have d : dW n r.1 (i9 tk w r) fut v + kR n r + 1 ≤ dW n σ tk fut v + kQ n t := by
  unfold dW i9;rw [if_neg hne]
  cases tk v with
  | none => have := anZ P hh; dsimp only; omega
  | some u => have := P.hol hh u; dsimp only; omega
 unfold zj;omega
theorem ajF (hw : w < 4) (ht : tk w = some t) (P : PotR n σ t r) : zj n r.1 (i9 tk w r) fut w + 1 ≤ zj n σ tk fut w ∨ wj σ t ∧ zj n r.1 (i9 tk w r) fut w ≤ zj n σ tk fut w := by
 have e2 := Ao hw (f := eW n tk fut) (f' := eW n (i9 tk w r) fut) (fun u _ hu => JB hu);have l1 := uh (eW n tk fut) hw;have l2 := uh (eW n (i9 tk w r) fut) hw
 have d0 : dW n σ tk fut w = dT n σ t + fut w * (14 + 2 * n) := by unfold dW; rw [ht]
 have d1 : dW n r.1 (i9 tk w r) fut w = (if r.2.2 = true then 0 else dT n r.1 r.2.1) + fut w * (14 + 2 * n) := by
  unfold dW i9;rw [if_pos rfl]
  cases r.2.2 <;> rfl
 by_cases hs : wj σ t
 ·obtain ⟨s1, s2, s3⟩ := P.spn hs
  rw [s1, if_neg (by simp), s2] at d1
  right
  refine ⟨hs, ?_⟩;unfold zj;omega
 ·left
  unfold zj
  rcases P.own with h | h | h
  ·exact absurd h hs
  ·rw [if_pos h] at d1
   have : 1 ≤ dT n σ t := Zm _ _ _ _ _;omega
  ·have : (if r.2.2 = true then 0 else dT n r.1 r.2.1) + 1 ≤ dT n σ t := by
    split
    ·have : 1 ≤ dT n σ t := Zm _ _ _ _ _
     omega
    ·exact h
   omega
theorem ajE (hw : w < 4) (h0 : tk w = none) {fut' : Nat → Nat} (hf : fut' w + 1 = fut w) (hf2 : ∀ u, u ≠ w → fut' u = fut u) (t : Tk) (σ' : az) (hV : σ'.μ.V = σ.μ.V) {v : Nat} (hv : v < 4) :
 zj n σ' (fun k => if k = w then some t else tk k) fut' v ≤ zj n σ tk fut v := by
 have dd : ∀ u, dT n σ' u = dT n σ u := fun u => by unfold dT ya Cr; rw [hV]
 have ne : ∀ u, u ≠ w → eW n (fun k => if k = w then some t else tk k) fut' u = eW n tk fut u := fun u hu => by unfold eW; dsimp only; rw [if_neg hu, hf2 u hu]
 have ew : eW n (fun k => if k = w then some t else tk k) fut' w ≤ eW n tk fut w := by
  unfold eW;dsimp only;rw [if_pos rfl, h0, ← hf, Nat.add_mul];have := anV n t.i t.at';dsimp only;unfold kQ;omega
 have e2 := Ao hw (f := eW n tk fut) (f' := eW n (fun k => if k = w then some t else tk k) fut') (fun u _ hu => ne u hu);have l1 := uh (eW n tk fut) hv;have l2 := uh (eW n (fun k => if k = w then some t else tk k) fut') hv
 by_cases e : v = w
 ·subst e
  have d : dW n σ' (fun k => if k = v then some t else tk k) fut' v ≤ dW n σ tk fut v := by
   unfold dW;dsimp only;rw [if_pos rfl, h0, ← hf, Nat.add_mul];have : dT n σ t ≤ 14 + 2 * n := anS n (ya σ t) (Cr σ t) t.i t.at';have := dd t;dsimp only;omega
  unfold zj;omega
 ·have d : dW n σ' (fun k => if k = w then some t else tk k) fut' v = dW n σ tk fut v := by
   unfold dW;dsimp only;rw [if_neg e, hf2 v e]
   cases tk v with
   | none => rfl
   | some u => dsimp only; rw [dd]
  have := ne v e;unfold zj;omega
end
section
variable {σ : az} {t : Tk}
theorem agD (μ : Mu) (who : Int) (l : b7) (a b : Nat) (z : b7) (h : z.1 ≠ l.1) : (μ.swp who l a b).V z = μ.V z := by
 rw [px]
 split
 ·exact wu h
 ·rfl
theorem agE (μ : Mu) (who : Int) (o w : Nat) (m : Option Nat) (z : b7) (h : z.1 ≠ 11) : (μ.turn who o w m).V z = μ.V z := by
 cases m with
 | none => rfl
 | some m => exact agD _ _ _ _ _ _ h
theorem ajS (now : Int) (z : b7) (h : z.1 ≠ 3 ∧ z.1 ≠ 9 ∧ z.1 ≠ 11 ∧ z.1 ≠ 15) (h8 : z.1 = 8 → t.at' ≠ 3 ∧ t.at' ≠ 5) : (ai σ t now).1.μ.V z = σ.μ.V z := by
 obtain ⟨h3, h9, h11, h15⟩ := h;unfold ai;dsimp only
 split
 ·split <;> rfl
 ·rfl
 ·rename_i hat
  exact agD _ _ _ _ _ _ (fun e => (h8 e).1 hat)
 ·split
  ·rfl
  ·split <;> rfl
 ·rename_i hat
  exact wu (fun e => (h8 e).2 hat)
 ·rfl
 ·rfl
 ·rfl
 ·split <;> exact agE _ _ _ _ _ _ h11
 ·rfl
 ·exact wu h15
 ·exact wu h3
 ·split <;> exact agE _ _ _ _ _ _ h11
 ·rfl
 ·rfl
 ·rfl
 ·rfl
 ·split <;> rfl
 ·exact wu h3
 ·exact wu h15
 ·rfl
 ·rfl
 ·exact agD _ _ _ _ _ _ h9
 ·exact wu h3
theorem afY (now : Int) (s : Int) (h : (ai σ t now).1.μ.V (8, s, 0) ≠ 0) :
 (σ.μ.V (8, s, 0) ≠ 0 ∧ (jm t → t.s = s → (ai σ t now).2.2 = false ∧ jm (ai σ t now).2.1 ∧ (ai σ t now).2.1.s = s)) ∨ ((ai σ t now).2.2 = false ∧ jm (ai σ t now).2.1 ∧ (ai σ t now).2.1.s = s) := by
 by_cases a3 : t.at' = 3
 ·have e : ai σ t now = (σ.mem (σ.μ.swp t.who (8, t.s, 0) 0 1), (if σ.μ.V (8, t.s, 0) = 0 then { t with at' := 4, i := 0 } else t), false) := by unfold ai; simp only [a3]
  rw [e] at h ⊢;have h : (σ.μ.swp t.who (8, t.s, 0) 0 1).V (8, s, 0) ≠ 0 := h;rw [px] at h
  by_cases h0 : σ.μ.V (8, t.s, 0) = 0
  ·rw [if_pos h0] at h ⊢
   by_cases hs : t.s = s
   ·exact .inr ⟨rfl, .inl rfl, hs⟩
   ·rw [if_neg (fun q => hs (by injection q with _ q; injection q with q _; exact q.symm))] at h
    exact .inl ⟨h, fun q => by rcases q with q | q <;> omega⟩
  ·rw [if_neg h0] at h ⊢
   exact .inl ⟨h, fun q => by rcases q with q | q <;> omega⟩
 by_cases a5 : t.at' = 5
 ·have e : ai σ t now = (σ.mem ((σ.μ.acc t.who 2 (8, t.s, 0)).put (8, t.s, 0) 0), { t with at' := 6 }, !t.found) := by unfold ai; simp only [a5]
  rw [e] at h;have h : (if ((8 : Int), s, (0 : Int)) = (8, t.s, 0) then 0 else σ.μ.V (8, s, 0)) ≠ 0 := h
  by_cases hs : t.s = s
  ·rw [if_pos (by rw [hs])] at h
   exact absurd rfl h
  ·rw [if_neg (fun q => hs (by injection q with _ q; injection q with q _; exact q.symm))] at h
   exact .inl ⟨h, fun _ q => absurd q hs⟩
 rw [ajS now (8, s, 0) ⟨by simp, by simp, by simp, by simp⟩ (fun _ => ⟨a3, a5⟩)] at h;refine .inl ⟨h, fun q hs => ?_⟩
 have a4 : t.at' = 4 := by
  rcases q with q | q
  ·exact q
  ·exact absurd q a5
 unfold ai;simp only [a4]
 split
 ·exact ⟨rfl, .inr rfl, hs⟩
 ·split
  ·exact ⟨rfl, .inr rfl, hs⟩
  ·exact ⟨rfl, .inl (show (aD σ t).at' = 4 from a4), hs⟩
end
def gY (LL : List (ja × List Cl)) (ats : List Nat) (w : Nat) : Nat := ((LL[w]?).map fun q => q.2.length).getD 0 - (ats[w]?).getD 0
structure LJ (c0 : gf) (LL : List (ja × List Cl)) (B : Nat) (i : Nat) (σ : az) (ws : List Wk) (ats : List Nat) : Prop where
 c : σ.c = c0
 sf : Sfs σ
 tf : ∀ w t, w < 4 → eO ws w = some t → Qd σ t
 mu : ∀ s, σ.μ.V (8, s, 0) ≠ 0 → ∃ u t, u < 4 ∧ eO ws u = some t ∧ jm t ∧ t.s = s
 r0 : i < 300 → RA B 0 0 (DY (eO ws) (gY LL ats)) (zj c0.sl.toNat σ (eO ws) (gY LL ats)) (Km (eO ws))
 r1 : 300 ≤ i → RA B ((i - 300) / 4) ((i - 300) % 4) (DY (eO ws) (gY LL ats)) (zj c0.sl.toNat σ (eO ws) (gY LL ats)) (Km (eO ws))
section
variable {c0 : gf} {LL : List (ja × List Cl)} {B i N0 : Nat} {σ : az} {ws : List Wk} {ats : List Nat} {w : Nat}
theorem RA.any {B : Nat} {fin : Nat → Prop} {Φ : Nat → Nat} {hd : Nat → Prop} (h : ∀ v, v < 4 → ¬ fin v → Φ v ≤ B) : RA B 0 0 fin Φ hd := ⟨h, fun v u _ hu => by omega, fun v hv => by omega⟩
theorem RA.next {B : Nat} {fin fin' : Nat → Prop} {Φ Φ' : Nat → Nat} {hd hd' : Nat → Prop} {i : Nat} (h0 : i < 300 → RA B 0 0 fin Φ hd) (h1 : 300 ≤ i → RA B ((i - 300) / 4) ((i - 300) % 4) fin Φ hd) (hp : 300 ≤ i → w = i % 4) (hw : w < 4)
 (hf : ∀ v, v < 4 → ¬ fin' v → ¬ fin v) (hh : ∀ u, u ≠ w → hd' u → hd u) (hh2 : ∀ u, u ≠ w → hd u → hd' u) (hΦ : ∀ v, v < 4 → v ≠ w → Φ' v ≤ Φ v)
 (hH : hd w ∨ hd' w → ∀ v, v < 4 → v ≠ w → Φ' v + 1 ≤ Φ v) (hown : ¬ fin' w → Φ' w + 1 ≤ Φ w ∨ Φ' w ≤ Φ w ∧ ∃ u, u < 4 ∧ u ≠ w ∧ hd u) :
 (i + 1 < 300 → RA B 0 0 fin' Φ' hd') ∧ (300 ≤ i + 1 → RA B ((i + 1 - 300) / 4) ((i + 1 - 300) % 4) fin' Φ' hd') := by
 have le : ∀ v, v < 4 → ¬ fin' v → Φ' v ≤ Φ v := fun v hv hn => by
  by_cases e : v = w
  ·subst e
   rcases hown hn with h1 | ⟨h1, _⟩ <;> omega
  ·exact hΦ v hv e
 by_cases hi : i < 300
 ·have h := h0 hi
  have a : RA B 0 0 fin' Φ' hd' := RA.any fun v hv hn => by
   have := h.a1 v hv (hf v hv hn);have := le v hv hn;omega
  refine ⟨fun _ => a, fun h2 => ?_⟩
  have e1 : (i + 1 - 300) / 4 = 0 := by omega
  have e2 : (i + 1 - 300) % 4 = 0 := by omega
  rw [e1, e2];exact a
 ·have h := h1 (by omega)
  have hw2 : w = (i - 300) % 4 := by have := hp (by omega); omega
  rw [← hw2] at h;have t := h.turn hw hf hh hh2 hΦ hH hown;refine ⟨fun h2 => by omega, fun _ => ?_⟩
  by_cases h3 : w = 3
  ·rw [h3] at t
   have t2 := t.wrap
   have e1 : (i + 1 - 300) / 4 = (i - 300) / 4 + 1 := by omega
   have e2 : (i + 1 - 300) % 4 = 0 := by omega
   rw [e1, e2];exact t2
  ·have e1 : (i + 1 - 300) / 4 = (i - 300) / 4 := by omega
   have e2 : (i + 1 - 300) % 4 = w + 1 := by omega
   rw [e1, e2];exact t
theorem acN {a : Nat} {L : ja × List Cl} (hL : LL[w]? = some L) (ha : ats[w]? = some a) (hlt : a < L.2.length) : gY LL (ats.set w (a + 1)) w + 1 = gY LL ats w ∧ ∀ u, u ≠ w → gY LL (ats.set w (a + 1)) u = gY LL ats u := by
 have hwl : w < ats.length := by
  rcases Nat.lt_or_ge w ats.length with h | h
  ·exact h
  ·rw [List.getElem?_eq_none h] at ha; cases ha
 refine ⟨?_, fun u hu => ?_⟩
 ·unfold gY
  rw [List.getElem?_set_self hwl, hL, ha];simp;omega
 ·unfold gY
  rw [List.getElem?_set_ne (fun h => hu h.symm)]
theorem LJ.begin (M : LJ c0 LL B i σ ws ats) {e xk a : Nat} {L : ja × List Cl} {c : Cl} (hLw : LL[w]? = some L) (haw : ats[w]? = some a) (hal : a < L.2.length) (hl : ws.length = 4) (hw : ws[w]? = some none) :
 LJ c0 LL B i (σ.begin w a) (ws.set w (some (e, xk, Tk.new σ.c w c))) (ats.set w (a + 1)) := by
 have hwl := LV hw
 have hw4 : w < 4 := by omega
 have h0 : eO ws w = none := by unfold eO; rw [hw]
 obtain ⟨f1, f2⟩ := acN hLw haw hal
 have tkE : ∀ k, eO (ws.set w (some (e, xk, Tk.new σ.c w c))) k = if k = w then some (Tk.new σ.c w c) else eO ws k := fun k => by rw [Aj hwl]; rfl
 have tkF : eO (ws.set w (some (e, xk, Tk.new σ.c w c))) = fun k => if k = w then some (Tk.new σ.c w c) else eO ws k := funext tkE;have a0 : (Tk.new σ.c w c).at' = 0 := rfl
 have hdE : ∀ u, Km (eO (ws.set w (some (e, xk, Tk.new σ.c w c)))) u → Km (eO ws) u := fun u ⟨t, h1, h2⟩ => by
  rw [tkE] at h1
  by_cases q : u = w
  ·rw [if_pos q] at h1
   cases h1
   rcases h2 with h2 | h2 <;> rw [a0] at h2 <;> omega
  ·rw [if_neg q] at h1
   exact ⟨t, h1, h2⟩
 have hdF : ∀ u, Km (eO ws) u → Km (eO (ws.set w (some (e, xk, Tk.new σ.c w c)))) u := fun u ⟨t, h1, h2⟩ => by
  refine ⟨t, ?_, h2⟩;rw [tkE, if_neg (fun q => by rw [q, h0] at h1; cases h1)];exact h1
 have fn : ∀ v, ¬ DY (eO (ws.set w (some (e, xk, Tk.new σ.c w c)))) (gY LL (ats.set w (a + 1))) v → ¬ DY (eO ws) (gY LL ats) v := fun v h q => by
  by_cases e : v = w
  ·subst e
   have := q.2;omega
  ·refine h ⟨?_, ?_⟩
   ·rw [tkE, if_neg e]; exact q.1
   ·rw [f2 v e]; exact q.2
 have ph : ∀ v, v < 4 → zj c0.sl.toNat (σ.begin w a) (eO (ws.set w (some (e, xk, Tk.new σ.c w c)))) (gY LL (ats.set w (a + 1))) v ≤ zj c0.sl.toNat σ (eO ws) (gY LL ats) v := fun v hv => by
  rw [tkF];exact ajE hw4 h0 f1 f2 _ _ rfl hv
 have conv : ∀ {R p : Nat}, RA B R p (DY (eO ws) (gY LL ats)) (zj c0.sl.toNat σ (eO ws) (gY LL ats)) (Km (eO ws)) → p ≤ 4 →
  RA B R p (DY (eO (ws.set w (some (e, xk, Tk.new σ.c w c)))) (gY LL (ats.set w (a + 1)))) (zj c0.sl.toNat (σ.begin w a) (eO (ws.set w (some (e, xk, Tk.new σ.c w c)))) (gY LL (ats.set w (a + 1)))) (Km (eO (ws.set w (some (e, xk, Tk.new σ.c w c))))) := fun h hp => by
  refine ⟨fun v hv hn => ?_, fun v u hv hu hne hh hn => ?_, fun v hv hn => ?_⟩
  ·have := h.a1 v hv (fn v hn); have := ph v hv; omega
  ·have := h.a2 v u hv hu hne (hdE u hh) (fn v hn); have := ph v hv; omega
  ·rcases h.a3 v hv (fn v hn) with h1 | ⟨u, u1, u2, u3, u4⟩
   ·have := ph v (by omega); left; omega
   ·exact .inr ⟨u, u1, u2, u3, hdF u u4⟩
 refine ⟨M.c, ⟨M.sf.v2, M.sf.wr, M.sf.hd⟩, fun w' t hw' ht => ?_, fun s hs => ?_, fun hi => conv (M.r0 hi) (by omega), fun hi => conv (M.r1 hi) (by omega)⟩
 ·rw [tkE] at ht
  by_cases e : w' = w
  ·rw [if_pos e] at ht
   cases ht;exact L7 (by rw [a0]; omega)
  ·rw [if_neg e] at ht
   have T := M.tf w' t hw' ht;exact ⟨T.q, T.cw, T.fl, T.fw, T.rm⟩
 ·obtain ⟨u, t, u1, u2, u3, u4⟩ := M.mu s hs
  refine ⟨u, t, u1, ?_, u3, u4⟩;rw [tkE, if_neg (fun q => by rw [q, h0] at u2; cases u2)];exact u2
theorem LJ.skip (M : LJ c0 LL B i σ ws ats) {a : Nat} {L : ja × List Cl} (hp : 300 ≤ i → w = i % 4) (hLw : LL[w]? = some L) (haw : ats[w]? = some a) (hal : L.2.length ≤ a) (hl : ws.length = 4) (hw : ws[w]? = some none) : LJ c0 LL B (i + 1) σ ws ats := by
 have hw4 : w < 4 := by have := LV hw; omega
 have h0 : eO ws w = none := by unfold eO; rw [hw]
 have hfin : DY (eO ws) (gY LL ats) w := ⟨h0, by unfold gY; rw [hLw, haw]; simp; omega⟩
 have nh : ¬ Km (eO ws) w := fun ⟨t, h1, _⟩ => by rw [h0] at h1; cases h1
 have r := RA.next M.r0 M.r1 hp hw4 (fun v _ h => h) (fun _ _ h => h) (fun _ _ h => h) (fun v _ _ => bj _) (fun h => absurd h (fun q => by rcases q with q | q <;> exact nh q)) (fun h => absurd hfin h)
 exact ⟨M.c, M.sf, M.tf, M.mu, r.1, r.2⟩
theorem LJ.step (M : LJ c0 LL B i σ ws ats) {K : Nat} {q : Nat × Nat × Tk} (now : Int) (hp : 300 ≤ i → w = i % 4) (S : SI σ K) (hl : ws.length = 4) (hw : ws[w]? = some (some q)) (T : fe σ q.2.2) :
 LJ c0 LL B (i + 1) (ai σ q.2.2 now).1 (ws.set w (if (ai σ q.2.2 now).2.2 = true then none else some (q.1, q.2.1, (ai σ q.2.2 now).2.1))) ats := by
 have hwl := LV hw
 have hw4 : w < 4 := by omega
 have h0 : eO ws w = some q.2.2 := by unfold eO; rw [hw]
 have hcfg := bV.1 S.c
 have hn : ((c0.sl.toNat : Nat) : Int) = σ.c.sl := by rw [M.c] at hcfg ⊢; omega
 have P := Ye hn T M.sf (M.tf w _ hw4 h0) (fun o ho => (S.cells o ho).2) now;obtain ⟨r, hr⟩ : ∃ r, r = ai σ q.2.2 now := ⟨_, rfl⟩
 have hc : r.1.c = σ.c := by
  rw [hr];unfold ai;dsimp only
  repeat' split
  all_goals rfl
 have mu := fun s => afY (σ := σ) (t := q.2.2) now s;rw [← hr] at P mu ⊢
 have tkE : ∀ k, eO (ws.set w (if r.2.2 = true then none else some (q.1, q.2.1, r.2.1))) k = i9 (eO ws) w r k := fun k => by
  rw [Aj hwl];unfold i9
  by_cases e : k = w
  ·rw [if_pos e, if_pos e]; split <;> rfl
  ·rw [if_neg e, if_neg e]
 have tkF : eO (ws.set w (if r.2.2 = true then none else some (q.1, q.2.1, r.2.1))) = i9 (eO ws) w r := funext tkE;have hne : ∀ u, u ≠ w → i9 (eO ws) w r u = eO ws u := fun u hu => if_neg hu;have hd1 : ∀ u, u ≠ w → Km (i9 (eO ws) w r) u → Km (eO ws) u := fun u hu ⟨t, h1, h2⟩ => ⟨t, by rw [← hne u hu]; exact h1, h2⟩;have hd2 : ∀ u, u ≠ w → Km (eO ws) u → Km (i9 (eO ws) w r) u := fun u hu ⟨t, h1, h2⟩ => ⟨t, by rw [hne u hu]; exact h1, h2⟩
 have hdw : Km (eO ws) w ∨ Km (i9 (eO ws) w r) w → jm q.2.2 ∨ q.2.2.at' = 3 ∧ ¬ wj σ q.2.2 := fun h => by
  rcases h with ⟨t, h1, h2⟩ | ⟨t, h1, h2⟩
  ·rw [h0] at h1
   cases h1;exact .inl h2
  ·have h1 : (if w = w then (if r.2.2 = true then none else some r.2.1) else eO ws w) = some t := h1
   rw [if_pos rfl] at h1;cases hd : r.2.2
   ·rw [hd, if_neg (by simp)] at h1
    cases h1;exact P.hld hd h2
   ·rw [hd, if_pos rfl] at h1; cases h1
 have ra := RA.next (fin' := DY (i9 (eO ws) w r) (gY LL ats)) (Φ' := zj c0.sl.toNat r.1 (i9 (eO ws) w r) (gY LL ats)) (hd' := Km (i9 (eO ws) w r)) M.r0 M.r1 hp hw4
  (fun v _ h f => by
   by_cases e : v = w
   ·subst e
    have := f.1;rw [h0] at this;cases this
   ·exact h ⟨by rw [hne v e]; exact f.1, f.2⟩)
  hd1 hd2 (fun v hv hvw => amK hw4 h0 P hv hvw) (fun h v hv hvw => amJ hw4 h0 P (hdw h) hv hvw)
  (fun _ => by
   rcases ajF (fut := gY LL ats) hw4 h0 P with h | ⟨h1, h2⟩
   ·exact .inl h
   ·obtain ⟨u, t, u1, u2, u3, u4⟩ := M.mu q.2.2.s h1.2
    refine .inr ⟨h2, u, u1, fun e => ?_, t, u2, u3⟩;subst e;rw [h0] at u2;cases u2;have := h1.1
    rcases u3 with u3 | u3 <;> omega)
 refine ⟨hc.trans M.c, P.sf, fun w' t hw' ht => ?_, fun s hs => ?_, by rw [tkF]; exact ra.1, by rw [tkF]; exact ra.2⟩
 ·rw [tkE] at ht
  have ht : (if w' = w then (if r.2.2 = true then none else some r.2.1) else eO ws w') = some t := ht
  by_cases e : w' = w
  ·rw [if_pos e] at ht
   cases hd : r.2.2
   ·rw [hd, if_neg (by simp)] at ht
    cases ht;exact P.tf hd
   ·rw [hd, if_pos rfl] at ht; cases ht
  ·rw [if_neg e] at ht
   exact P.ofs t (M.tf w' t hw' ht)
 ·have own : r.2.2 = false ∧ jm r.2.1 ∧ r.2.1.s = s → ∃ u t, u < 4 ∧ eO (ws.set w (if r.2.2 = true then none else some (q.1, q.2.1, r.2.1))) u = some t ∧ jm t ∧ t.s = s := fun ⟨h1, h2, h3⟩ => by
   refine ⟨w, r.2.1, hw4, ?_, h2, h3⟩;rw [tkE];show (if w = w then (if r.2.2 = true then none else some r.2.1) else eO ws w) = _;rw [if_pos rfl, h1, if_neg (by simp)]
  rcases mu s hs with ⟨h1, h2⟩ | h1
  ·obtain ⟨u, t, u1, u2, u3, u4⟩ := M.mu s h1
   by_cases e : u = w
   ·subst e
    rw [h0] at u2;cases u2;exact own (h2 u3 u4)
   ·exact ⟨u, t, u1, by rw [tkE, hne u e]; exact u2, u3, u4⟩
  ·exact own h1
theorem LJ.start {n : Nat} (hc : ci c0 = true) (hn : n ≤ 16) (hL : LL.length = 4) (hO : pR LL 20) : LJ c0 LL 365 0 (az.made c0 n) [none, none, none, none] [0, 0, 0, 0] := by
 have hcfg := bV.1 hc
 have V : ∀ k, k ≤ 16 → ∀ z : b7, z.1 ≠ 10 → (az.made c0 k).μ.V z = 0 := by
  intro k
  induction k with
  | zero => exact fun _ _ _ => rfl
  | succ k ih =>
   intro hk z hz;unfold az.made
   split
   ·show (if z = (10, _, _) then _ else (az.made c0 k).μ.V z) = 0
    rw [if_neg (fun e => hz (by rw [e]))];exact ih (by omega) z hz
   ·exact ih (by omega) z hz
 have V := V n hn
 have none4 : ∀ w, w < 4 → eO [none, none, none, none] w = none := fun w hw => by
  have : w = 0 ∨ w = 1 ∨ w = 2 ∨ w = 3 := by omega
  rcases this with rfl | rfl | rfl | rfl <;> rfl
 have fl : ∀ w, w < 4 → gY LL [0, 0, 0, 0] w ≤ 5 := fun w hw => by
  unfold gY;rw [br (by omega)];have := (hO w _ (br (by omega))).1;simp;omega
 have ra : RA 365 0 0 (DY (eO [none, none, none, none]) (gY LL [0, 0, 0, 0])) (zj c0.sl.toNat (az.made c0 n) (eO [none, none, none, none]) (gY LL [0, 0, 0, 0])) (Km (eO [none, none, none, none])) := RA.any fun v hv _ => by
  have e0 : ∀ u, u < 4 → eW c0.sl.toNat (eO [none, none, none, none]) (gY LL [0, 0, 0, 0]) u ≤ 85 := fun u hu => by
   unfold eW;rw [none4 u hu];have h1 := fl u hu
   have h2 : c0.sl.toNat + 13 ≤ 17 := by omega
   have := Nat.mul_le_mul h1 h2;dsimp only;omega
  have d0 : dW c0.sl.toNat (az.made c0 n) (eO [none, none, none, none]) (gY LL [0, 0, 0, 0]) v ≤ 110 := by
   unfold dW;rw [none4 v hv];have h1 := fl v hv
   have h2 : 14 + 2 * c0.sl.toNat ≤ 22 := by omega
   have := Nat.mul_le_mul h1 h2;dsimp only;omega
  unfold zj S4;have := e0 0 (by omega);have := e0 1 (by omega);have := e0 2 (by omega);have := e0 3 (by omega)
  have : v = 0 ∨ v = 1 ∨ v = 2 ∨ v = 3 := by omega
  rcases this with rfl | rfl | rfl | rfl <;> omega
 refine ⟨(xf c0 n).1, ⟨V _ (by simp), fun o => ?_, fun o => V _ (by simp)⟩, (fun w t hw ht => by rw [none4 w hw] at ht; cases ht), (fun s hs => absurd (V (8, s, 0) (by simp)) hs), fun _ => ra, fun h => by omega⟩;rw [V _ (by simp)]
 decide
theorem LJ.ended (M : LJ c0 LL 365 2400 σ ws ats) (hl : ws.length = 4) (hal : ats.length = 4) : ahC LL ws ats := by
 have r := M.r1 (by omega);intro w hw
 have hf : DY (eO ws) (gY LL ats) w := Classical.byContradiction fun hn => by
  have := r.a1 w hw hn;omega
 obtain ⟨h1, h2⟩ := hf;refine ⟨?_, fun q hq a ha => ?_⟩
 ·rw [br (by omega)]
  unfold eO at h1;rw [br (by omega)] at h1
  cases e : ws[w] with
  | none => rfl
  | some q => rw [e] at h1; cases h1
 ·unfold gY at h2
  rw [hq, ha] at h2;simp at h2;omega
end
end Go.Proofs.YtghoamdlcjdfjaaGreatDoor.Gst
