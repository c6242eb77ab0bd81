/- Several texts in one. -/
import Derived.Test.YtghoamdlcjdfjaaGreatDoorAwf
namespace Go.Proofs.YtghoamdlcjdfjaaGreatDoor.Gst
open Go Go.RowKit
set_option linter.unusedSimpArgs false
set_option linter.unusedVariables false
set_option linter.unusedSectionVars false
set_option maxHeartbeats 1000000
set_option synthInstance.maxSize 2000
set_option synthInstance.maxHeartbeats 400000
theorem WJ.begin {c0 : eR} {LL : List (lW × List Cl)} {i n : Nat} {σ : az} {ws : List Wk} {ats : List Nat} (M : WJ c0 LL i n σ ws ats) {w e xk a : Nat} {L : lW × List Cl} (hLw : LL[w]? = some L) (haw : ats[w]? = some a) (hal : a < L.2.length) (h3 : (L.2[a]).op = 3) (hw : ws[w]? = some none) :
 WJ c0 LL i n (σ.begin w a) (ws.set w (some (e, xk, Tk.new σ.c w L.2[a]))) (ats.set w (a + 1)) := by
 obtain ⟨m1, m2, m3, m4, m5, ls, m6⟩ := M;exact ⟨m1.begin h3 m3 hw, m2.begin hLw haw hal m3 hw, by rw [vx]; exact m3, by rw [vx]; exact m4, m5, ls, m6.begin m3 hw⟩
theorem WJ.step {c0 : eR} {LL : List (lW × List Cl)} {i n : Nat} {σ : az} {ws : List Wk} {ats : List Nat} (M : WJ c0 LL i n σ ws ats) {w K : Nat} {q : Nat × Nat × Tk} (now : Int) (hi : i < 2400) (hp : 300 ≤ i → w = i % 4) (hK : K < 60000) (S : SI σ K) (hw : ws[w]? = some (some q)) (T : eG σ q.2.2) :
 WJ c0 LL (i + 1) (n + 1) (ah σ q.2.2 now).1 (ws.set w (if (ah σ q.2.2 now).2.2 = true then none else some (q.1, q.2.1, (ah σ q.2.2 now).2.1))) ats := by
 obtain ⟨m1, m2, m3, m4, m5, ls, m6⟩ := M;have hwl := w5 hw
 have h0 : de ws w = some q.2.2 := by unfold de; rw [hw]
 obtain ⟨ls', m7⟩ := VC T (by omega) m6 (by omega) h0 now;refine ⟨m1.step hK S m3 hw, m2.step now hp S m3 hw T, by rw [vx]; exact m3, m4, by rw [QH]; exact m5, ls', ?_⟩;rw [VJ hwl];exact m7
theorem WJ.skip {c0 : eR} {LL : List (lW × List Cl)} {i n : Nat} {σ : az} {ws : List Wk} {ats : List Nat} (M : WJ c0 LL i n σ ws ats) {w a : Nat} {L : lW × List Cl} (hp : 300 ≤ i → w = i % 4) (hLw : LL[w]? = some L) (haw : ats[w]? = some a) (hal : L.2.length ≤ a) (hw : ws[w]? = some none) : WJ c0 LL (i + 1) n σ ws ats := by
 obtain ⟨m1, m2, m3, m4, m5, ls, m6⟩ := M;exact ⟨m1, m2.skip hp hLw haw hal m3 hw, m3, m4, m5, ls, m6.mono (by omega)⟩
theorem Zn {c : eR} : ∀ k, ∀ z : bC, z.1 ≠ 10 → (az.made c k).μ.V z = 0 := by
 intro k
 induction k with
 | zero => exact fun _ _ => rfl
 | succ k ih =>
  intro z hz;unfold az.made
  split
  ·show (if z = (10, _, _) then _ else (az.made c k).μ.V z) = 0
   rw [if_neg (fun e => hz (by rw [e]))];exact ih z hz
  ·exact ih z hz
theorem R5 {H0 : AH} (hT : H0.get 0 = some (.cells true tabC)) (c : eR) (s : Value) (L : List Cl) [hR : Rd (Rc H0) s 4 Cl.cells L] (s3 : Value) (l3 : List Int) [hR3 : Rd (Rc H0) s3 1 dC l3] :
 ∃ H', FF iq [.agg (eR.cells c).toArray, s, s3] H0 = some (vb true, H') := by
 have key : wp (FF iq [.agg (eR.cells c).toArray, s, s3] H0) fun v' _ => v' = vb true := by
  haveI := Ry hT
  refine a9 (fun r => xi _ _ _ H0) ?_;refine aZ (l := eR.cells c) (PF H0) fun b1 H1 h1 => ?_;refine aU h1 ?_;refine ag h1 (Uj c 4 (by omega)) fun q H3 h3 => ?_;obtain ⟨p, x, c'⟩ := q;dsimp only at h3 ⊢;rw [ar, ac.pu] at h3;obtain ⟨hc, h3⟩ := h3;refine aa (v := .agg [vp p, vp x].toArray) rfl ?_;refine aa (v := vb true) rfl ?_;refine bj h3 fun pb H4 h4 => ?_;refine f7 h4 rfl rfl fun H5 h5 => ?_;refine X3 h5 fun H6 h6 => ?_;refine gs ?_;rw [Bool.not_true];refine gs ?_;rw [Bool.not_true];refine gs ?_;refine aU h6 ?_;have M := Us c' hc 4 (by omega);obtain ⟨rp, h7⟩ := UX (p := p) (σ := az.made c' 4) (R := blk pb (.cells false [vp p, vp x]) * (bD x (az.made c' 4) * (blk b1 (.cells false (eR.cells c)) * Rc H0))) (H := H6) h6.to;refine Zp (s := s) (L := L) 20 (by omega) h7 fun lb LL H8 hL hOf h8 => ?_;refine dB h8 h7 rfl ?_;refine Qe (s := s3) (l := l3) 9 300 (by omega) (by omega) h8 fun pv o H9 ho hov h9 => ?_;refine dB h9 h7 rfl ?_;refine JO p x rp (az.made c' 4) 16 M.si (bf _) lb LL hL pv o 2400 (by omega) (WJ c' LL) ⟨⟨RJ.start hc 4 (by omega), fun w q hq => ?_⟩, LJ.start hc (by omega) hL hOf, rfl, rfl, by have := (rZ c' 4).2.2; omega, _, WI.start hc 4 (by omega) (Zn 4)⟩
   (fun i σ ws ats w q now K hi hp hK S _ _ hw T M => M.step now hi (fun h => hp (by omega)) hK S hw T)
   (fun i now σ ws ats w e xk L a hLw haw hal _ _ _ hw M => M.begin hLw haw hal ((hOf w L hLw).2 _ (PN hal)) hw)
   (fun i now σ ws ats w L a hp hLw haw hal _ hw M => M.skip (fun h => hp (by omega)) hLw haw hal hw) h9 fun b now' σ' ws' ats' H10 S' hI hAll h10 => ?_
  ·have hm := List.mem_of_getElem? hq
   simp at hm
  obtain ⟨m1, m2, m3, m4, m5, ls, m6⟩ := hI;have hall := m2.ended m3 m4;have hb : b = true := hAll.2 hall;subst hb
  have hnone : ∀ w, w < 4 → de ws' w = none := fun w hw => by unfold de; rw [(hall w hw).1]
  obtain ⟨LR, bs, hb1, hb2⟩ := m6.ended hnone;have hc' : σ'.c = c' := m2.c;refine aa (v := vb true) rfl ?_;refine aa (v := vb true) rfl ?_;refine aa nN ?_;rw [Bool.not_true];refine aa (v := vb true) rfl ?_;refine cL ?_;refine aa nN ?_;rw [Bool.not_true];refine aa (nH _ _) ?_;refine pQ ?_;refine aq h10 aD rfl ?_;obtain ⟨g, hrp, hg, h12⟩ := hM (p := p) (rp := rp) (σ := σ') (ac.fr h10);refine pQ ?_;refine aq h12 ae rfl ?_;refine lV ?_;have hN := S'.N;refine ag h12 (sP (p := p) (g := g) (σ := σ') (PK (ib := g.ib) (m := g.m) (nm := g.nm) (c := σ'.c) (nx := σ'.nx) (μ := σ'.μ) (who := 0) (by omega))) fun _ H13 h13 => ?_;refine lV ?_;refine ag h13 (U0 _ (S'.V _)) fun _ H14 h14 => ?_
  have ec : (σ'.μ.V (3, 0, 0) / yK == σ'.μ.V (3, 0, 0) % yK) = true := by
   rw [hb1];simp only [yK, beq_iff_eq];omega
  rw [ec];refine cL ?_;refine aa nN ?_;rw [Bool.not_true];refine aa (nH _ _) ?_;refine gs ?_;refine aq h14 aD rfl ?_;refine ag h14 (JT (p := p) (g := g) (σ := σ'.mem (σ'.μ.acc 0 1 (3, 0, 0))) (by rw [hrp]; exact hg)) fun _ H15 h15 => ?_;refine Bb (n := σ'.obs.length) (enc := De) false h15 rfl (by unfold room; omega) (by omega) fun ib H16 h16 => ?_;obtain ⟨gx, hgx, h17⟩ := fB (p := x) (σ := σ') (R := ts 1 De (vs ib σ'.obs.length 1) (List.replicate σ'.obs.length false) * (aI p g (σ'.mem (σ'.μ.acc 0 1 (3, 0, 0))) * (blk pb (.cells false [vp p, vp x]) * (blk b1 (.cells false (eR.cells c)) * Rc H0)))) (H := H16) h16.to;exact KL p x (gx := gx) (σ := σ'.mem (σ'.μ.acc 0 1 (3, 0, 0))) (σ0 := σ') (ls := ls) (R := blk b1 (.cells false (eR.cells c)) * Rc H0) S'.c (by rw [hrp]; exact hg) (by show σ'.μ.N + 2 ≤ _; omega) m5 rfl ⟨LR.ch, LR.nd, LR.mem, LR.all, LR.fl⟩ _ H16 (show ac (ts 1 De (vs ib σ'.obs.length 1) (List.replicate σ'.obs.length false) * (aI p g (σ'.mem (σ'.μ.acc 0 1 (3, 0, 0))) * (blk pb (.cells false [vp p, vp x]) * (av x gx σ' * (blk b1 (.cells false (eR.cells c)) * Rc H0))))) H16 from h17.to)
 obtain ⟨v, H', e, rfl⟩ := key;exact ⟨H', e⟩
theorem enqWakes_args {H0 : AH} (hT : H0.get 0 = some (.cells true tabC)) {xc : CfgTy.I} {cc : List Value} (hc : Abs H0 CfgTy xc cc) {l : List ClTy.I} {v : Value} (hl : Abs H0 (.slice ClTy) l [v]) {l3 : List Int} {v3 : Value} (hl3 : Abs H0 (.slice (.int .i64)) l3 [v3]) :
 ∃ H', FF iq [.agg cc.toArray, v, v3] H0 = some (vb true, H') := by
 obtain ⟨c, rfl⟩ := WL hc
 haveI := HO hl
 haveI := N3 hl3
 exact R5 hT c v (l.map VK) v3 l3
end Go.Proofs.YtghoamdlcjdfjaaGreatDoor.Gst
